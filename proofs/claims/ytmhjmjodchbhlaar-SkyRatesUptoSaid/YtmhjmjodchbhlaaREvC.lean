/- The evaluator's soundness, second part: loads, stores and new rows. -/
import Derived.Test.YtmhjmjodchbhlaaREvB
set_option linter.unusedVariables false
set_option linter.unusedSimpArgs false
set_option linter.unusedSectionVars false
namespace Go.Ev
open Go.RowKit

theorem add_none (b o n : Nat) : (⟨b, o, none⟩ : Addr).add n = ⟨b, o + n, none⟩ := Addr.add_lit b o n
theorem cellsAt.cell {w : World} {b o : Nat} {cs : List Value} (h : cellsAt w b o cs) : ∀ j v, cs[j]? = some v → w.cell? ((⟨b, o, none⟩ : Addr).add j) = some v := by
  intro j v hj
  obtain ⟨c, e, fz, h1, h2⟩ := h
  rw [add_none, cell_of_row w b (o + j) c e fz h1, h2 j (List.getElem?_eq_some_iff.1 hj).1, hj]
/-- A part of what lies at a place. -/
theorem cellsAt.part {w : World} {b o : Nat} {cs xs : List Value} {off : Nat} (h : cellsAt w b o cs) (hl : off + xs.length ≤ cs.length) (hx : ∀ j, j < xs.length → cs[off + j]? = xs[j]?) :
    cellsAt w b (o + off) xs := by
  obtain ⟨c, e, fz, h1, h2⟩ := h
  refine ⟨c, e, fz, h1, fun j hj => ?_⟩
  rw [← hx j hj, ← h2 (off + j) (by omega)]
  congr 1; omega

theorem tk_not_agg {P : Program} {t : TypeId} (h : tk P t = .one ∨ ∃ e, tk P t = .sl e) (w : World) : (isAgg t).run P w = .ok false w := by
  rcases h with h | ⟨e, h⟩
  · obtain ⟨_, d, hu, h1, h2⟩ := tk_one h
    unfold isAgg
    simp only [Sem.run_bind, run_underlying hu, Result.andThen_ok]
    cases d <;> first
      | rfl
      | exact absurd rfl (h1 _)
      | exact absurd rfl (h2 _ _)
  · obtain ⟨hu, _⟩ := tk_sl h
    unfold isAgg
    simp only [Sem.run_bind, run_underlying hu, Result.andThen_ok]
    rfl
theorem tk_is_agg {P : Program} {t : TypeId} {n : Nat} {r : Bool} (h : tk P t = .agg n r) (w : World) : (isAgg t).run P w = .ok true w := by
  obtain ⟨_, ⟨fs, hu, _⟩ | ⟨m, e, hu, _⟩⟩ := tk_agg h <;>
  · unfold isAgg
    simp only [Sem.run_bind, run_underlying hu, Result.andThen_ok]
    rfl
theorem tk_info {P : Program} {t : TypeId} (h : tk P t ≠ .bad) : ∃ i, P.info? t = some i := by
  unfold tk at h
  split at h <;> first
    | (rename_i hu; exact underlying_info hu)
    | (rename_i _ hu; exact underlying_info hu)
    | (rename_i _ _ hu; exact underlying_info hu)
    | (rename_i _ _ _ hu; exact underlying_info hu)
    | (rename_i _ _ _ _ hu; exact underlying_info hu)
    | exact absurd rfl h
theorem run_sizeOf {P : Program} {t : TypeId} (h : tk P t ≠ .bad) (w : World) : (sizeOf t).run P w = .ok (szOf P t) w := by
  obtain ⟨i, hi⟩ := tk_info h
  simp [sizeOf, typeInfo, hi, szOf_info hi]

/-- What a value's cells are: no aggregates in them. -/
theorem one_of_mem {css : List (List Value)} (h : ∀ c ∈ css, ∀ u ∈ c, u.oneCell' = true) : ∀ u ∈ css.flatten, u.oneCell' = true := by
  intro u hu
  obtain ⟨c, hc, hu⟩ := List.mem_flatten.1 hu
  exact h c hc u hu
section one
variable {P : Program} {S : Nat → Prop} {σ : Sig} {st : Store} {w : World}
mutual
theorem Fl.one : ∀ (x : D) (cs : List Value), Fl P S w x cs → ∀ u ∈ cs, u.oneCell' = true
  | .bool b, cs, h => by cases h; simp [Value.oneCell']
  | .int k n, cs, h => by cases h; simp [Value.oneCell']
  | .str s, cs, h => by cases h; simp [Value.oneCell']
  | .agg t ds, cs, h => by
    obtain ⟨css, rfl, h2, h3⟩ := h
    exact one_of_mem (Fl.ones ds css h3)
  | .sl e ds, cs, h => by
    obtain ⟨A, cap, rfl, _⟩ := h
    simp [Value.oneCell']
  | .ptr x, cs, h => by obtain ⟨b, o, xs, rfl, _⟩ := h; simp [Value.oneCell']
  | .np, cs, h => by cases h; simp [Value.oneCell']
theorem Fl.ones : ∀ (ds : List D) (css : List (List Value)), Fl.fls P S w ds css → ∀ c ∈ css, ∀ u ∈ c, u.oneCell' = true
  | [], css, h => by cases h; simp
  | d :: ds, css, h => by
    obtain ⟨c, r, rfl, h2, h3⟩ := h
    intro c' hc'
    rcases List.mem_cons.1 hc' with rfl | hc'
    · exact Fl.one d _ h2
    · exact Fl.ones ds r h3 _ hc'
end
mutual
theorem RelC.one : ∀ (v : V) (cs : List Value), RelC P S σ st w v cs → ∀ u ∈ cs, u.oneCell' = true
  | .d x, cs, h => Fl.one x cs h
  | .agg t vs, cs, h => by
    obtain ⟨css, rfl, h2, h3⟩ := h
    exact one_of_mem (RelC.ones vs css h3)
  | .p k ver i path, cs, h => by obtain ⟨A, rfl, _⟩ := h; simp [Value.oneCell']
  | .rs er k ver off len full, cs, h => by obtain ⟨A, c, rfl, _⟩ := h; simp [Value.oneCell']
  | .mp k ver, cs, h => by obtain ⟨r, rfl, _⟩ := h; simp [Value.oneCell']
  | .nils e, cs, h => by obtain ⟨A, rfl⟩ := h; simp [Value.oneCell']
  | .fn f caps, cs, h => by obtain ⟨vals, rfl, _⟩ := h; simp [Value.oneCell']
  | .jk, cs, h => by obtain ⟨x, rfl, h⟩ := h; simp [h]
  | .tup _, _, h => h.elim
  | .und, _, h => h.elim
theorem RelC.ones : ∀ (vs : List V) (css : List (List Value)), RelC.rels P S σ st w vs css → ∀ c ∈ css, ∀ u ∈ c, u.oneCell' = true
  | [], css, h => by cases h; simp
  | d :: ds, css, h => by
    obtain ⟨c, r, rfl, h2, h3⟩ := h
    intro c' hc'
    rcases List.mem_cons.1 hc' with rfl | hc'
    · exact RelC.one d _ h2
    · exact RelC.ones ds r h3 _ hc'
end

theorem Fl.single {x : D} {cs : List Value} (h : Fl P S w x cs) (hx : ∀ t ds, x ≠ .agg t ds) : ∃ v, cs = [v] := by
  cases x with
  | agg t ds => exact absurd rfl (hx t ds)
  | bool b => exact ⟨_, h⟩
  | int k n => exact ⟨_, h⟩
  | str s => exact ⟨_, h⟩
  | sl e ds => obtain ⟨A, cap, h, _⟩ := h; exact ⟨_, h⟩
  | ptr x => obtain ⟨b, o, xs, h, _⟩ := h; exact ⟨_, h⟩
  | np => exact ⟨_, h⟩
theorem RelC.single {v : V} {cs : List Value} (h : RelC P S σ st w v cs) (hv : v.isAgg = false) : ∃ u, cs = [u] := by
  cases v with
  | d x => exact Fl.single h (fun t ds e => by subst e; simp [V.isAgg] at hv)
  | agg t vs => simp [V.isAgg] at hv
  | p k ver i path => obtain ⟨A, h, _⟩ := h; exact ⟨_, h⟩
  | rs er k ver off len full => obtain ⟨A, c, h, _⟩ := h; exact ⟨_, h⟩
  | mp k ver => obtain ⟨r, h, _⟩ := h; exact ⟨_, h⟩
  | nils e => obtain ⟨A, h⟩ := h; exact ⟨_, h⟩
  | fn f caps => obtain ⟨vals, h, _⟩ := h; exact ⟨_, h⟩
  | jk => obtain ⟨x, h, _⟩ := h; exact ⟨_, h⟩
  | tup _ => exact h.elim
  | und => exact h.elim

/-- A value fits its type: how many cells, and in which form. -/
theorem hasT_agg {t : TypeId} {v : V} (h : hasT P t v = true) (hv : v.isAgg = true) : (∃ n r, tk P t = .agg n r) ∧ ((∃ ds, v = .d (.agg t ds)) ∨ ∃ vs, v = .agg t vs) := by
  unfold hasT at h
  split at h
  · rename_i t' ds
    simp only [Bool.and_eq_true, beq_iff_eq] at h
    obtain ⟨rfl, h⟩ := h
    refine ⟨?_, .inl ⟨ds, rfl⟩⟩
    cases hk : tk P t' <;> simp [hk] at h <;> exact ⟨_, _, rfl⟩
  · rename_i t' vs
    simp only [Bool.and_eq_true, beq_iff_eq] at h
    obtain ⟨rfl, h⟩ := h
    refine ⟨?_, .inr ⟨vs, rfl⟩⟩
    cases hk : tk P t' <;> simp [hk] at h <;> exact ⟨_, _, rfl⟩
  · simp [V.isAgg] at hv
  · simp [V.isAgg] at hv
  · rename_i h1 h2 h3 h4
    exfalso
    cases v with
    | d x => cases x <;> first | (simp [V.isAgg] at hv; done) | exact h1 _ _ rfl
    | agg t vs => exact h2 _ _ rfl
    | _ => simp [V.isAgg] at hv
theorem hasT_one {t : TypeId} {v : V} (h : hasT P t v = true) (hv : v.isAgg = false) : tk P t = .one ∨ ∃ e, tk P t = .sl e := by
  unfold hasT at h
  split at h
  · simp [V.isAgg] at hv
  · simp [V.isAgg] at hv
  · cases h
  · cases h
  · cases hk : tk P t <;> simp [hk] at h ⊢
theorem hasT_bad {t : TypeId} {v : V} (h : hasT P t v = true) : tk P t ≠ .bad := by
  intro hb
  cases hv : v.isAgg
  · rcases hasT_one h hv with h' | ⟨e, h'⟩ <;> rw [hb] at h' <;> cases h'
  · obtain ⟨⟨n, r, h'⟩, _⟩ := hasT_agg h hv
    rw [hb] at h'; cases h'
theorem hasT_length {t : TypeId} {v : V} {cs : List Value} (h : hasT P t v = true) (hr : RelC P S σ st w v cs) : cs.length = szOf P t := by
  cases hv : v.isAgg
  · obtain ⟨u, rfl⟩ := hr.single hv
    rcases hasT_one h hv with h' | ⟨e, h'⟩
    · exact (tk_one h').1.symm
    · exact (tk_sl h').2.1.symm
  · obtain ⟨_, ⟨ds, rfl⟩ | ⟨vs, rfl⟩⟩ := hasT_agg h hv
    · obtain ⟨css, rfl, h2, _⟩ := hr
      rw [length_flatten', comps_sum h2]
    · obtain ⟨css, rfl, h2, _⟩ := hr
      rw [length_flatten', comps_sum h2]
/-- The value itself from its cells. -/
def valOf (v : V) (cs : List Value) : Value := if v.isAgg then .agg cs.toArray else cs.headD (.tuple #[])
theorem valOf_rel {v : V} {cs : List Value} (h : RelC P S σ st w v cs) : RelN P S σ st w v (valOf v cs) := by
  unfold valOf
  cases hv : v.isAgg
  · obtain ⟨u, rfl⟩ := h.single hv
    exact .inr (.inr ⟨hv, h⟩)
  · exact .inr (.inl ⟨hv, cs, rfl, h⟩)
theorem RelN.cells {v : V} {val : Value} (h : RelN P S σ st w v val) (hu : v ≠ .und) : RelC P S σ st w v val.cells.toList ∧ val = valOf v val.cells.toList := by
  rcases h with h | ⟨h1, cs, rfl, h3⟩ | ⟨h1, h2⟩
  · exact absurd h hu
  · exact ⟨by simpa [Value.cells] using h3, by simp [valOf, h1, Value.cells]⟩
  · have ho := RelC.one v [val] h2 val (by simp)
    have : val.cells = #[val] := by cases val <;> simp [Value.oneCell'] at ho <;> rfl
    rw [this]
    exact ⟨by simpa using h2, by simp [valOf, h1]⟩
theorem hasT_und {t : TypeId} {v : V} (h : hasT P t v = true) : v ≠ .und := by rintro rfl; simp [hasT] at h
theorem hasT_tup {t : TypeId} {v : V} (h : hasT P t v = true) : ∀ vs, v ≠ .tup vs := by rintro vs rfl; simp [hasT] at h
theorem RelV.n {v : V} {val : Value} (h : RelV P S σ st w v val) (hv : ∀ vs, v ≠ .tup vs) : RelN P S σ st w v val := by
  cases v <;> first | exact h | exact absurd rfl (hv _)
theorem RelN.v {v : V} {val : Value} (h : RelN P S σ st w v val) (hv : ∀ vs, v ≠ .tup vs) : RelV P S σ st w v val := by
  cases v <;> first | exact h | exact absurd rfl (hv _)
theorem RelC.not_tup {v : V} {cs : List Value} (h : RelC P S σ st w v cs) : ∀ vs, v ≠ .tup vs := by rintro vs rfl; exact h.elim

/-- Reading a variable whose cells lie at a place. -/
theorem run_loadVar {t : TypeId} {v : V} {cs : List Value} {a : Addr} (h : hasT P t v = true) (hr : RelC P S σ st w v cs) (hc : ∀ j u, cs[j]? = some u → w.cell? (a.add j) = some u) :
    (loadVar t a).run P w = .ok (valOf v cs) w := by
  have hl := hasT_length h hr
  unfold loadVar valOf
  cases hv : v.isAgg
  · obtain ⟨u, rfl⟩ := hr.single hv
    have := hc 0 u rfl
    rw [show a.add 0 = a from rfl] at this
    simp only [Sem.run_bind, tk_not_agg (hasT_one h hv), Result.andThen_ok]
    simp [run_load, this]
  · obtain ⟨⟨n, r, hn⟩, _⟩ := hasT_agg h hv
    simp only [Sem.run_bind, tk_is_agg hn, Result.andThen_ok]
    simp only [if_true, Sem.run_bind, run_sizeOf (hasT_bad h), Result.andThen_ok, Sem.run_pure]
    rw [← hl, run_loadCells_list w a cs hc]
    rfl
end one

/-! ### paths -/
theorem flatten_at : ∀ {css : List (List Value)} {i : Nat} {c : List Value}, css[i]? = some c → ((css.map List.length).take i).sum + c.length ≤ css.flatten.length ∧
    ∀ j, j < c.length → css.flatten[((css.map List.length).take i).sum + j]? = c[j]?
  | [], i, c, h => by simp at h
  | d :: css, i, c, h => by
    cases i with
    | zero =>
      simp at h; subst h
      refine ⟨by simp, fun j hj => ?_⟩
      simp only [List.take_zero, List.sum_nil, Nat.zero_add, List.flatten_cons]
      rw [List.getElem?_append_left hj]
    | succ i =>
      simp at h
      obtain ⟨h1, h2⟩ := flatten_at h
      refine ⟨?_, fun j hj => ?_⟩
      · simp only [List.map_cons, List.take_succ_cons, List.sum_cons, List.flatten_cons, List.length_append]; omega
      · rw [← h2 j hj]
        simp only [List.map_cons, List.take_succ_cons, List.sum_cons, List.flatten_cons]
        rw [List.getElem?_append_right (by omega)]
        congr 1; omega
theorem flatten_set : ∀ {css : List (List Value)} {i : Nat} {c c' : List Value}, css[i]? = some c → c'.length = c.length →
    (css.set i c').flatten = css.flatten.take ((css.map List.length).take i).sum ++ c' ++ css.flatten.drop (((css.map List.length).take i).sum + c.length)
  | [], i, c, c', h, _ => by simp at h
  | d :: css, i, c, c', h, hl => by
    cases i with
    | zero => simp at h; subst h; simp
    | succ i =>
      simp at h
      have := flatten_set h hl
      simp only [List.set_cons_succ, List.flatten_cons, this, List.map_cons, List.take_succ_cons, List.sum_cons]
      rw [List.take_append, List.drop_append]
      have e1 : d.length + (((css.map List.length).take i).sum) - d.length = ((css.map List.length).take i).sum := by omega
      have e2 : d.length + ((css.map List.length).take i).sum + c.length - d.length = ((css.map List.length).take i).sum + c.length := by omega
      rw [e1, e2, List.take_of_length_le (l := d) (by omega), List.drop_of_length_le (l := d) (by omega)]
      simp
theorem set_same {α : Type} : ∀ (l : List α) (i : Nat) (x : α), l[i]? = some x → l.set i x = l
  | [], _, _, _ => rfl
  | _ :: _, 0, _, h => by simp at h; simp [h]
  | _ :: l, i + 1, x, h => by simp at h; simp [set_same l i x h]
theorem map_length_set {css : List (List Value)} {i : Nat} {c c' : List Value} (h : css[i]? = some c) (hl : c'.length = c.length) : (css.set i c').map List.length = css.map List.length := by
  rw [List.map_set]
  have : (css.map List.length)[i]? = some c'.length := by simp [h, hl]
  exact set_same _ _ _ this
theorem splice_in {F ci cx : List Value} {A off : Nat} (g1 : A + ci.length ≤ F.length) (g2 : ∀ j, j < ci.length → F[A + j]? = ci[j]?) (h2 : off + cx.length ≤ ci.length) :
    F.take (A + off) ++ cx ++ F.drop (A + off + cx.length) = F.take A ++ (ci.take off ++ cx ++ ci.drop (off + cx.length)) ++ F.drop (A + ci.length) := by
  have hF : F = F.take A ++ ci ++ F.drop (A + ci.length) := by
    have h1 : (F.drop A).take ci.length = ci := by
      apply List.ext_getElem?
      intro j
      by_cases hj : j < ci.length
      · rw [List.getElem?_take_of_lt hj, List.getElem?_drop, g2 j hj]
      · rw [List.getElem?_eq_none (by simp; omega), List.getElem?_eq_none (by omega)]
    conv => lhs; rw [← List.take_append_drop A F, ← List.take_append_drop ci.length (F.drop A), h1, List.drop_drop]
    simp
  have hX : (F.take A).length = A := by simp; omega
  generalize F.take A = X at *
  generalize F.drop (A + ci.length) = Y at *
  subst hF
  rw [List.append_assoc X ci Y]
  have t1 : (X ++ (ci ++ Y)).take (A + off) = X ++ ci.take off := by
    rw [List.take_append, List.take_of_length_le (l := X) (by omega), List.take_append, show A + off - X.length = off by omega]
    rw [show off - ci.length = 0 by omega]; simp
  have t2 : (X ++ (ci ++ Y)).drop (A + off + cx.length) = ci.drop (off + cx.length) ++ Y := by
    rw [List.drop_append, List.drop_of_length_le (l := X) (by omega), List.drop_append, show A + off + cx.length - X.length = off + cx.length by omega]
    rw [show off + cx.length - ci.length = 0 by omega]; simp
  rw [t1, t2]
  simp
theorem RelC.len_unique {P : Program} {S : Nat → Prop} {σ : Sig} {st : Store} {w : World} (v : V) (c c' : List Value) (h : RelC P S σ st w v c) (h' : RelC P S σ st w v c') : c.length = c'.length := by
  cases hv : v.isAgg
  · obtain ⟨u, rfl⟩ := h.single hv
    obtain ⟨u', rfl⟩ := h'.single hv
    rfl
  · cases v with
    | d x =>
      cases x with
      | agg t ds =>
        obtain ⟨css, rfl, h2, _⟩ := h
        obtain ⟨css', rfl, h2', _⟩ := h'
        rw [length_flatten', length_flatten']
        rw [h2] at h2'
        rw [Option.some.inj h2']
      | _ => simp [V.isAgg] at hv
    | agg t ds =>
      obtain ⟨css, rfl, h2, _⟩ := h
      obtain ⟨css', rfl, h2', _⟩ := h'
      rw [length_flatten', length_flatten']
      rw [h2] at h2'
      rw [Option.some.inj h2']
    | _ => simp [V.isAgg] at hv
section path
variable {P : Program} {S : Nat → Prop} {σ : Sig} {st : Store} {w : World}
/-- Where a part of a value lies among its cells. -/
theorem getPath_cells : ∀ (path : List (TypeId × Nat)) (v x : V) (c : List Value), RelC P S σ st w v c → getPath v path = some x →
    ∃ off cx, pathOff P path = some off ∧ RelC P S σ st w x cx ∧ off + cx.length ≤ c.length ∧ ∀ j, j < cx.length → c[off + j]? = cx[j]?
  | [], v, x, c, h, hp => by
    have : getPath v [] = some v := by cases v <;> rfl
    rw [this] at hp; cases hp
    exact ⟨0, c, rfl, h, by omega, fun j _ => by rw [Nat.zero_add]⟩
  | (t', i) :: r, v, x, c, h, hp => by
    have step : ∀ (t : TypeId) (css : List (List Value)) (ci : List Value) (y : V), c = css.flatten → comps P t = some (css.map List.length) → css[i]? = some ci → t = t' → RelC P S σ st w y ci → getPath y r = some x →
        ∃ off cx, pathOff P ((t', i) :: r) = some off ∧ RelC P S σ st w x cx ∧ off + cx.length ≤ c.length ∧ ∀ j, j < cx.length → c[off + j]? = cx[j]? := by
      intro t css ci y hc hcomp hci ht hy hg
      subst hc; subst ht
      obtain ⟨off, cx, h1, h2, h3, h4⟩ := getPath_cells r y x ci hy hg
      obtain ⟨g1, g2⟩ := flatten_at hci
      have hlt : i < (css.map List.length).length := by simpa using (List.getElem?_eq_some_iff.1 hci).1
      refine ⟨((css.map List.length).take i).sum + off, cx, ?_, h2, by omega, fun j hj => ?_⟩
      · simp only [pathOff, hcomp, h1, if_pos hlt]
      · rw [← h4 j hj, ← g2 (off + j) (by omega)]
        congr 1; omega
    cases v with
    | d z =>
      cases z with
      | agg t ds =>
        simp only [getPath] at hp
        split at hp
        · rename_i ht
          split at hp
          · rename_i y hy
            obtain ⟨css, hc, hcomp, hf⟩ := h
            rw [nth_eq] at hy
            obtain ⟨ci, hci, hfl⟩ := fls_at hf hy
            exact step t css ci (.d y) hc hcomp hci ht hfl hp
          · cases hp
        · cases hp
      | _ => simp [getPath] at hp
    | agg t vs =>
      simp only [getPath] at hp
      split at hp
      · rename_i ht
        split at hp
        · rename_i y hy
          obtain ⟨css, hc, hcomp, hf⟩ := h
          rw [nth_eq] at hy
          obtain ⟨ci, hci, hfl⟩ := rels_at hf hy
          exact step t css ci y hc hcomp hci ht hfl hp
        · cases hp
      · cases hp
    | _ => simp [getPath] at hp

theorem allD_rels : ∀ {vs : List V} {ds : List D} {css : List (List Value)}, allD vs = some ds → RelC.rels P S σ st w vs css → Fl.fls P S w ds css
  | [], _, _, h, hr => by cases h; exact hr
  | .d x :: vs, ds, css, h, hr => by
    simp only [allD, Option.map_eq_some_iff] at h
    obtain ⟨r, h1, rfl⟩ := h
    obtain ⟨c, q, rfl, h2, h3⟩ := hr
    exact ⟨c, q, rfl, h2, allD_rels h1 h3⟩
  | .agg .. :: _, _, _, h, _ | .p .. :: _, _, _, h, _ | .rs .. :: _, _, _, h, _ | .mp .. :: _, _, _, h, _ | .nils _ :: _, _, _, h, _ | .fn .. :: _, _, _, h, _ | .jk :: _, _, _, h, _
  | .tup _ :: _, _, _, h, _ | .und :: _, _, _, h, _ => by simp [allD] at h
theorem mkAgg_rel {t : TypeId} {vs : List V} {css : List (List Value)} (hc : comps P t = some (css.map List.length)) (hr : RelC.rels P S σ st w vs css) : RelC P S σ st w (mkAgg t vs) css.flatten := by
  unfold mkAgg
  split
  · rename_i ds hd
    exact ⟨css, rfl, hc, allD_rels hd hr⟩
  · exact ⟨css, rfl, hc, hr⟩
theorem fls_set : ∀ {ds : List D} {css : List (List Value)} {i : Nat} {d : D} {c : List Value}, Fl.fls P S w ds css → Fl P S w d c → Fl.fls P S w (ds.set i d) (css.set i c)
  | [], _, _, _, _, h, _ => by cases h; simp [Fl.fls]
  | x :: ds, _, i, d, c', h, hc => by
    obtain ⟨c, r, rfl, h2, h3⟩ := h
    cases i with
    | zero => exact ⟨c', r, rfl, hc, h3⟩
    | succ i => exact ⟨c, r.set i c', rfl, h2, fls_set h3 hc⟩
/-- A part of a value put in the place of another. -/
theorem setPath_cells : ∀ (path : List (TypeId × Nat)) (v old x v' : V) (c cold cx : List Value), RelC P S σ st w v c → getPath v path = some old → RelC P S σ st w old cold → RelC P S σ st w x cx → cx.length = cold.length →
    setPath v path x = some v' → ∃ off, pathOff P path = some off ∧ off + cx.length ≤ c.length ∧ RelC P S σ st w v' (c.take off ++ cx ++ c.drop (off + cx.length))
  | [], v, old, x, v', c, cold, cx, h, hg, ho, hx, hl, hs => by
    have e1 : getPath v [] = some v := by cases v <;> rfl
    have e2 : setPath v [] x = some x := by cases v <;> rfl
    rw [e1] at hg; rw [e2] at hs
    cases hg; cases hs
    obtain ⟨off, cx', h1, h2, h3, h4⟩ := getPath_cells [] v v c h e1
    have hlen : c.length = cold.length := RelC.len_unique v _ _ h ho
    refine ⟨0, rfl, by omega, ?_⟩
    rw [List.take_zero, List.nil_append, List.drop_of_length_le (by omega), List.append_nil]
    exact hx
  | (t', i) :: r, v, old, x, v', c, cold, cx, h, hg, ho, hx, hl, hs => by
    cases v with
    | d z =>
      cases z with
      | agg t ds =>
        simp only [getPath] at hg
        simp only [setPath] at hs
        split at hg
        · rename_i ht
          rw [if_pos ht] at hs
          split at hg
          · rename_i y hy
            rw [hy] at hs
            simp only at hs
            obtain ⟨css, rfl, hcomp, hf⟩ := h
            rw [nth_eq] at hy
            obtain ⟨ci, hci, hfl⟩ := fls_at hf hy
            cases hq : setPath (.d y) r x with
            | none => rw [hq] at hs; simp at hs
            | some q =>
              obtain ⟨off, h1, h2, h3⟩ := setPath_cells r (.d y) old x q ci cold cx hfl hg ho hx hl hq
              obtain ⟨g1, g2⟩ := flatten_at hci
              have hlt : i < (css.map List.length).length := by simpa using (List.getElem?_eq_some_iff.1 hci).1
              have hcl : (ci.take off ++ cx ++ ci.drop (off + cx.length)).length = ci.length := by simp; omega
              have hfs := flatten_set hci hcl
              refine ⟨((css.map List.length).take i).sum + off, ?_, by omega, ?_⟩
              · subst ht; simp only [pathOff, hcomp, h1, if_pos hlt]
              · have hwant : css.flatten.take (((css.map List.length).take i).sum + off) ++ cx ++ css.flatten.drop (((css.map List.length).take i).sum + off + cx.length) = (css.set i (ci.take off ++ cx ++ ci.drop (off + cx.length))).flatten := by
                  rw [hfs]
                  exact splice_in g1 g2 h2
                rw [hwant]
                have hcomp' : comps P t = some ((css.set i (ci.take off ++ cx ++ ci.drop (off + cx.length))).map List.length) := by rw [map_length_set hci hcl]; exact hcomp
                rw [hq] at hs
                cases q with
                | d q' =>
                  simp only [Option.some.injEq] at hs
                  subst hs
                  rw [setN_eq]
                  exact ⟨_, rfl, hcomp', fls_set hf h3⟩
                | _ =>
                  simp only [Option.some.injEq] at hs
                  subst hs
                  rw [setN_eq]
                  exact ⟨_, rfl, hcomp', rels_set (rels_map hf) h3⟩
          · cases hg
        · cases hg
      | _ => simp [getPath] at hg
    | agg t vs =>
      simp only [getPath] at hg
      simp only [setPath] at hs
      split at hg
      · rename_i ht
        rw [if_pos ht] at hs
        split at hg
        · rename_i y hy
          rw [hy] at hs
          simp only at hs
          obtain ⟨css, rfl, hcomp, hf⟩ := h
          rw [nth_eq] at hy
          obtain ⟨ci, hci, hfl⟩ := rels_at hf hy
          cases hq : setPath y r x with
          | none => rw [hq] at hs; simp at hs
          | some q =>
            obtain ⟨off, h1, h2, h3⟩ := setPath_cells r y old x q ci cold cx hfl hg ho hx hl hq
            obtain ⟨g1, g2⟩ := flatten_at hci
            have hlt : i < (css.map List.length).length := by simpa using (List.getElem?_eq_some_iff.1 hci).1
            have hcl : (ci.take off ++ cx ++ ci.drop (off + cx.length)).length = ci.length := by simp; omega
            have hfs := flatten_set hci hcl
            refine ⟨((css.map List.length).take i).sum + off, ?_, by omega, ?_⟩
            · subst ht; simp only [pathOff, hcomp, h1, if_pos hlt]
            · have hwant : css.flatten.take (((css.map List.length).take i).sum + off) ++ cx ++ css.flatten.drop (((css.map List.length).take i).sum + off + cx.length) = (css.set i (ci.take off ++ cx ++ ci.drop (off + cx.length))).flatten := by
                rw [hfs]
                exact splice_in g1 g2 h2
              rw [hwant]
              have hcomp' : comps P t = some ((css.set i (ci.take off ++ cx ++ ci.drop (off + cx.length))).map List.length) := by rw [map_length_set hci hcl]; exact hcomp
              rw [hq] at hs
              simp only [Option.some.injEq] at hs
              subst hs
              rw [setN_eq]
              exact mkAgg_rel hcomp' (rels_set hf h3)
        · cases hg
      · cases hg
    | _ => simp [getPath] at hg
end path
end Go.Ev
