/- Parts of one proof, joined: EvC, EvD, EvE, EvF. -/
import Derived.Test.YtnojehmbiceceaaMCatalogRows1
import Derived.MapKept
import Derived.Laws.StructEq
section
set_option linter.unusedVariables false
set_option linter.unusedSimpArgs false
set_option linter.unusedSectionVars false
namespace Go.Ev
open Go.RowKit

theorem add_none (b o n : Nat) : (⟨b, o, none⟩ : Addr).add n = ⟨b, o + n, none⟩ := Addr.add_lit b o n
theorem cellsAt.cell {w : World} {b o : Nat} {cs : List Value} (h : cellsAt w b o cs) : ∀ j v, cs[j]? = some v → w.cell? ((⟨b, o, none⟩ : Addr).add j) = some v := by
  intro j v hj
  obtain ⟨c, e, fz, h1, h2⟩ := h
  rw [add_none, cell_of_row w b (o + j) c e fz h1, h2 j (List.getElem?_eq_some_iff.1 hj).1, hj]
/-- A part of what lies at a place. -/
theorem cellsAt.part {w : World} {b o : Nat} {cs xs : List Value} {off : Nat} (h : cellsAt w b o cs) (hl : off + xs.length ≤ cs.length) (hx : ∀ j, j < xs.length → cs[off + j]? = xs[j]?) :
    cellsAt w b (o + off) xs := by
  obtain ⟨c, e, fz, h1, h2⟩ := h
  refine ⟨c, e, fz, h1, fun j hj => ?_⟩
  rw [← hx j hj, ← h2 (off + j) (by omega)]
  congr 1; omega

theorem tk_not_agg {P : Program} {t : TypeId} (h : tk P t = .one ∨ ∃ e, tk P t = .sl e) (w : World) : (isAgg t).run P w = .ok false w := by
  rcases h with h | ⟨e, h⟩
  · obtain ⟨_, d, hu, h1, h2⟩ := tk_one h
    unfold isAgg
    simp only [Sem.run_bind, run_underlying hu, Result.andThen_ok]
    cases d <;> first
      | rfl
      | exact absurd rfl (h1 _)
      | exact absurd rfl (h2 _ _)
  · obtain ⟨hu, _⟩ := tk_sl h
    unfold isAgg
    simp only [Sem.run_bind, run_underlying hu, Result.andThen_ok]
    rfl
theorem tk_is_agg {P : Program} {t : TypeId} {n : Nat} {r : Bool} (h : tk P t = .agg n r) (w : World) : (isAgg t).run P w = .ok true w := by
  obtain ⟨_, ⟨fs, hu, _⟩ | ⟨m, e, hu, _⟩⟩ := tk_agg h <;>
  · unfold isAgg
    simp only [Sem.run_bind, run_underlying hu, Result.andThen_ok]
    rfl
theorem tk_info {P : Program} {t : TypeId} (h : tk P t ≠ .bad) : ∃ i, P.info? t = some i := by
  unfold tk at h
  split at h <;> first
    | (rename_i hu; exact underlying_info hu)
    | (rename_i _ hu; exact underlying_info hu)
    | (rename_i _ _ hu; exact underlying_info hu)
    | (rename_i _ _ _ hu; exact underlying_info hu)
    | (rename_i _ _ _ _ hu; exact underlying_info hu)
    | exact absurd rfl h
theorem run_sizeOf {P : Program} {t : TypeId} (h : tk P t ≠ .bad) (w : World) : (sizeOf t).run P w = .ok (szOf P t) w := by
  obtain ⟨i, hi⟩ := tk_info h
  simp [sizeOf, typeInfo, hi, szOf_info hi]

/-- What a value's cells are: no aggregates in them. -/
theorem one_of_mem {css : List (List Value)} (h : ∀ c ∈ css, ∀ u ∈ c, u.oneCell' = true) : ∀ u ∈ css.flatten, u.oneCell' = true := by
  intro u hu
  obtain ⟨c, hc, hu⟩ := List.mem_flatten.1 hu
  exact h c hc u hu
section one
variable {P : Program} {S : Nat → Prop} {σ : Sig} {st : Store} {w : World}
mutual
theorem Fl.one : ∀ (x : D) (cs : List Value), Fl P S w x cs → ∀ u ∈ cs, u.oneCell' = true
  | .bool b, cs, h => by cases h; simp [Value.oneCell']
  | .int k n, cs, h => by cases h; simp [Value.oneCell']
  | .str s, cs, h => by cases h; simp [Value.oneCell']
  | .agg t ds, cs, h => by
    obtain ⟨css, rfl, h2, h3⟩ := h
    exact one_of_mem (Fl.ones ds css h3)
  | .sl e ds, cs, h => by
    obtain ⟨A, cap, rfl, _⟩ := h
    simp [Value.oneCell']
  | .ptr x, cs, h => by obtain ⟨b, o, xs, rfl, _⟩ := h; simp [Value.oneCell']
  | .np, cs, h => by cases h; simp [Value.oneCell']
theorem Fl.ones : ∀ (ds : List D) (css : List (List Value)), Fl.fls P S w ds css → ∀ c ∈ css, ∀ u ∈ c, u.oneCell' = true
  | [], css, h => by cases h; simp
  | d :: ds, css, h => by
    obtain ⟨c, r, rfl, h2, h3⟩ := h
    intro c' hc'
    rcases List.mem_cons.1 hc' with rfl | hc'
    · exact Fl.one d _ h2
    · exact Fl.ones ds r h3 _ hc'
end
mutual
theorem RelC.one : ∀ (v : V) (cs : List Value), RelC P S σ st w v cs → ∀ u ∈ cs, u.oneCell' = true
  | .d x, cs, h => Fl.one x cs h
  | .agg t vs, cs, h => by
    obtain ⟨css, rfl, h2, h3⟩ := h
    exact one_of_mem (RelC.ones vs css h3)
  | .p k ver i path, cs, h => by obtain ⟨A, rfl, _⟩ := h; simp [Value.oneCell']
  | .rs er k ver off len full, cs, h => by obtain ⟨A, c, rfl, _⟩ := h; simp [Value.oneCell']
  | .mp k ver, cs, h => by obtain ⟨r, rfl, _⟩ := h; simp [Value.oneCell']
  | .nils e, cs, h => by cases h; simp [Value.oneCell']
  | .nila e, cs, h => by obtain ⟨A, rfl⟩ := h; simp [Value.oneCell']
  | .nilm, cs, h => by cases h; simp [Value.oneCell']
  | .fn f caps, cs, h => by obtain ⟨vals, rfl, _⟩ := h; simp [Value.oneCell']
  | .jk, cs, h => by obtain ⟨x, rfl, h⟩ := h; simp [h]
  | .tup _, _, h => h.elim
  | .und, _, h => h.elim
theorem RelC.ones : ∀ (vs : List V) (css : List (List Value)), RelC.rels P S σ st w vs css → ∀ c ∈ css, ∀ u ∈ c, u.oneCell' = true
  | [], css, h => by cases h; simp
  | d :: ds, css, h => by
    obtain ⟨c, r, rfl, h2, h3⟩ := h
    intro c' hc'
    rcases List.mem_cons.1 hc' with rfl | hc'
    · exact RelC.one d _ h2
    · exact RelC.ones ds r h3 _ hc'
end

theorem Fl.single {x : D} {cs : List Value} (h : Fl P S w x cs) (hx : ∀ t ds, x ≠ .agg t ds) : ∃ v, cs = [v] := by
  cases x with
  | agg t ds => exact absurd rfl (hx t ds)
  | bool b => exact ⟨_, h⟩
  | int k n => exact ⟨_, h⟩
  | str s => exact ⟨_, h⟩
  | sl e ds => obtain ⟨A, cap, h, _⟩ := h; exact ⟨_, h⟩
  | ptr x => obtain ⟨b, o, xs, h, _⟩ := h; exact ⟨_, h⟩
  | np => exact ⟨_, h⟩
theorem RelC.single {v : V} {cs : List Value} (h : RelC P S σ st w v cs) (hv : v.isAgg = false) : ∃ u, cs = [u] := by
  cases v with
  | d x => exact Fl.single h (fun t ds e => by subst e; simp [V.isAgg] at hv)
  | agg t vs => simp [V.isAgg] at hv
  | p k ver i path => obtain ⟨A, h, _⟩ := h; exact ⟨_, h⟩
  | rs er k ver off len full => obtain ⟨A, c, h, _⟩ := h; exact ⟨_, h⟩
  | mp k ver => obtain ⟨r, h, _⟩ := h; exact ⟨_, h⟩
  | nils e => exact ⟨_, h⟩
  | nila e => obtain ⟨A, h⟩ := h; exact ⟨_, h⟩
  | nilm => exact ⟨_, h⟩
  | fn f caps => obtain ⟨vals, h, _⟩ := h; exact ⟨_, h⟩
  | jk => obtain ⟨x, h, _⟩ := h; exact ⟨_, h⟩
  | tup _ => exact h.elim
  | und => exact h.elim

/-- A value fits its type: how many cells, and in which form. -/
theorem hasT_agg {t : TypeId} {v : V} (h : hasT P t v = true) (hv : v.isAgg = true) : (∃ n r, tk P t = .agg n r) ∧ ((∃ ds, v = .d (.agg t ds)) ∨ ∃ vs, v = .agg t vs) := by
  unfold hasT at h
  split at h
  · rename_i t' ds
    simp only [Bool.and_eq_true, beq_iff_eq] at h
    obtain ⟨rfl, h⟩ := h
    refine ⟨?_, .inl ⟨ds, rfl⟩⟩
    cases hk : tk P t' <;> simp [hk] at h <;> exact ⟨_, _, rfl⟩
  · rename_i t' vs
    simp only [Bool.and_eq_true, beq_iff_eq] at h
    obtain ⟨rfl, h⟩ := h
    refine ⟨?_, .inr ⟨vs, rfl⟩⟩
    cases hk : tk P t' <;> simp [hk] at h <;> exact ⟨_, _, rfl⟩
  · simp [V.isAgg] at hv
  · simp [V.isAgg] at hv
  · rename_i h1 h2 h3 h4
    exfalso
    cases v with
    | d x => cases x <;> first | (simp [V.isAgg] at hv; done) | exact h1 _ _ rfl
    | agg t vs => exact h2 _ _ rfl
    | _ => simp [V.isAgg] at hv
theorem hasT_one {t : TypeId} {v : V} (h : hasT P t v = true) (hv : v.isAgg = false) : tk P t = .one ∨ ∃ e, tk P t = .sl e := by
  unfold hasT at h
  split at h
  · simp [V.isAgg] at hv
  · simp [V.isAgg] at hv
  · cases h
  · cases h
  · cases hk : tk P t <;> simp [hk] at h ⊢
theorem hasT_bad {t : TypeId} {v : V} (h : hasT P t v = true) : tk P t ≠ .bad := by
  intro hb
  cases hv : v.isAgg
  · rcases hasT_one h hv with h' | ⟨e, h'⟩ <;> rw [hb] at h' <;> cases h'
  · obtain ⟨⟨n, r, h'⟩, _⟩ := hasT_agg h hv
    rw [hb] at h'; cases h'
theorem hasT_length {t : TypeId} {v : V} {cs : List Value} (h : hasT P t v = true) (hr : RelC P S σ st w v cs) : cs.length = szOf P t := by
  cases hv : v.isAgg
  · obtain ⟨u, rfl⟩ := hr.single hv
    rcases hasT_one h hv with h' | ⟨e, h'⟩
    · exact (tk_one h').1.symm
    · exact (tk_sl h').2.1.symm
  · obtain ⟨_, ⟨ds, rfl⟩ | ⟨vs, rfl⟩⟩ := hasT_agg h hv
    · obtain ⟨css, rfl, h2, _⟩ := hr
      rw [length_flatten', comps_sum h2]
    · obtain ⟨css, rfl, h2, _⟩ := hr
      rw [length_flatten', comps_sum h2]
/-- The value itself from its cells. -/
def valOf (v : V) (cs : List Value) : Value := if v.isAgg then .agg cs.toArray else cs.headD (.tuple #[])
theorem valOf_rel {v : V} {cs : List Value} (h : RelC P S σ st w v cs) : RelN P S σ st w v (valOf v cs) := by
  unfold valOf
  cases hv : v.isAgg
  · obtain ⟨u, rfl⟩ := h.single hv
    exact .inr (.inr ⟨hv, h⟩)
  · exact .inr (.inl ⟨hv, cs, rfl, h⟩)
theorem RelN.cells {v : V} {val : Value} (h : RelN P S σ st w v val) (hu : v ≠ .und) : RelC P S σ st w v val.cells.toList ∧ val = valOf v val.cells.toList := by
  rcases h with h | ⟨h1, cs, rfl, h3⟩ | ⟨h1, h2⟩
  · exact absurd h hu
  · exact ⟨by simpa [Value.cells] using h3, by simp [valOf, h1, Value.cells]⟩
  · have ho := RelC.one v [val] h2 val (by simp)
    have : val.cells = #[val] := by cases val <;> simp [Value.oneCell'] at ho <;> rfl
    rw [this]
    exact ⟨by simpa using h2, by simp [valOf, h1]⟩
theorem hasT_und {t : TypeId} {v : V} (h : hasT P t v = true) : v ≠ .und := by rintro rfl; simp [hasT] at h
theorem hasT_tup {t : TypeId} {v : V} (h : hasT P t v = true) : ∀ vs, v ≠ .tup vs := by rintro vs rfl; simp [hasT] at h
theorem RelV.n {v : V} {val : Value} (h : RelV P S σ st w v val) (hv : ∀ vs, v ≠ .tup vs) : RelN P S σ st w v val := by
  cases v <;> first | exact h | exact absurd rfl (hv _)
theorem RelN.v {v : V} {val : Value} (h : RelN P S σ st w v val) (hv : ∀ vs, v ≠ .tup vs) : RelV P S σ st w v val := by
  cases v <;> first | exact h | exact absurd rfl (hv _)
theorem RelC.not_tup {v : V} {cs : List Value} (h : RelC P S σ st w v cs) : ∀ vs, v ≠ .tup vs := by rintro vs rfl; exact h.elim

/-- Reading a variable whose cells lie at a place. -/
theorem run_loadVar {t : TypeId} {v : V} {cs : List Value} {a : Addr} (h : hasT P t v = true) (hr : RelC P S σ st w v cs) (hc : ∀ j u, cs[j]? = some u → w.cell? (a.add j) = some u) :
    (loadVar t a).run P w = .ok (valOf v cs) w := by
  have hl := hasT_length h hr
  unfold loadVar valOf
  cases hv : v.isAgg
  · obtain ⟨u, rfl⟩ := hr.single hv
    have := hc 0 u rfl
    rw [show a.add 0 = a from rfl] at this
    simp only [Sem.run_bind, tk_not_agg (hasT_one h hv), Result.andThen_ok]
    simp [run_load, this]
  · obtain ⟨⟨n, r, hn⟩, _⟩ := hasT_agg h hv
    simp only [Sem.run_bind, tk_is_agg hn, Result.andThen_ok]
    simp only [if_true, Sem.run_bind, run_sizeOf (hasT_bad h), Result.andThen_ok, Sem.run_pure]
    rw [← hl, run_loadCells_list w a cs hc]
    rfl
end one

/-! ### paths -/
theorem flatten_at : ∀ {css : List (List Value)} {i : Nat} {c : List Value}, css[i]? = some c → ((css.map List.length).take i).sum + c.length ≤ css.flatten.length ∧
    ∀ j, j < c.length → css.flatten[((css.map List.length).take i).sum + j]? = c[j]?
  | [], i, c, h => by simp at h
  | d :: css, i, c, h => by
    cases i with
    | zero =>
      simp at h; subst h
      refine ⟨by simp, fun j hj => ?_⟩
      simp only [List.take_zero, List.sum_nil, Nat.zero_add, List.flatten_cons]
      rw [List.getElem?_append_left hj]
    | succ i =>
      simp at h
      obtain ⟨h1, h2⟩ := flatten_at h
      refine ⟨?_, fun j hj => ?_⟩
      · simp only [List.map_cons, List.take_succ_cons, List.sum_cons, List.flatten_cons, List.length_append]; omega
      · rw [← h2 j hj]
        simp only [List.map_cons, List.take_succ_cons, List.sum_cons, List.flatten_cons]
        rw [List.getElem?_append_right (by omega)]
        congr 1; omega
theorem flatten_set : ∀ {css : List (List Value)} {i : Nat} {c c' : List Value}, css[i]? = some c → c'.length = c.length →
    (css.set i c').flatten = css.flatten.take ((css.map List.length).take i).sum ++ c' ++ css.flatten.drop (((css.map List.length).take i).sum + c.length)
  | [], i, c, c', h, _ => by simp at h
  | d :: css, i, c, c', h, hl => by
    cases i with
    | zero => simp at h; subst h; simp
    | succ i =>
      simp at h
      have := flatten_set h hl
      simp only [List.set_cons_succ, List.flatten_cons, this, List.map_cons, List.take_succ_cons, List.sum_cons]
      rw [List.take_append, List.drop_append]
      have e1 : d.length + (((css.map List.length).take i).sum) - d.length = ((css.map List.length).take i).sum := by omega
      have e2 : d.length + ((css.map List.length).take i).sum + c.length - d.length = ((css.map List.length).take i).sum + c.length := by omega
      rw [e1, e2, List.take_of_length_le (l := d) (by omega), List.drop_of_length_le (l := d) (by omega)]
      simp
theorem set_same {α : Type} : ∀ (l : List α) (i : Nat) (x : α), l[i]? = some x → l.set i x = l
  | [], _, _, _ => rfl
  | _ :: _, 0, _, h => by simp at h; simp [h]
  | _ :: l, i + 1, x, h => by simp at h; simp [set_same l i x h]
theorem map_length_set {css : List (List Value)} {i : Nat} {c c' : List Value} (h : css[i]? = some c) (hl : c'.length = c.length) : (css.set i c').map List.length = css.map List.length := by
  rw [List.map_set]
  have : (css.map List.length)[i]? = some c'.length := by simp [h, hl]
  exact set_same _ _ _ this
theorem splice_in {F ci cx : List Value} {A off : Nat} (g1 : A + ci.length ≤ F.length) (g2 : ∀ j, j < ci.length → F[A + j]? = ci[j]?) (h2 : off + cx.length ≤ ci.length) :
    F.take (A + off) ++ cx ++ F.drop (A + off + cx.length) = F.take A ++ (ci.take off ++ cx ++ ci.drop (off + cx.length)) ++ F.drop (A + ci.length) := by
  have hF : F = F.take A ++ ci ++ F.drop (A + ci.length) := by
    have h1 : (F.drop A).take ci.length = ci := by
      apply List.ext_getElem?
      intro j
      by_cases hj : j < ci.length
      · rw [List.getElem?_take_of_lt hj, List.getElem?_drop, g2 j hj]
      · rw [List.getElem?_eq_none (by simp; omega), List.getElem?_eq_none (by omega)]
    conv => lhs; rw [← List.take_append_drop A F, ← List.take_append_drop ci.length (F.drop A), h1, List.drop_drop]
    simp
  have hX : (F.take A).length = A := by simp; omega
  generalize F.take A = X at *
  generalize F.drop (A + ci.length) = Y at *
  subst hF
  rw [List.append_assoc X ci Y]
  have t1 : (X ++ (ci ++ Y)).take (A + off) = X ++ ci.take off := by
    rw [List.take_append, List.take_of_length_le (l := X) (by omega), List.take_append, show A + off - X.length = off by omega]
    rw [show off - ci.length = 0 by omega]; simp
  have t2 : (X ++ (ci ++ Y)).drop (A + off + cx.length) = ci.drop (off + cx.length) ++ Y := by
    rw [List.drop_append, List.drop_of_length_le (l := X) (by omega), List.drop_append, show A + off + cx.length - X.length = off + cx.length by omega]
    rw [show off + cx.length - ci.length = 0 by omega]; simp
  rw [t1, t2]
  simp
theorem RelC.len_unique {P : Program} {S : Nat → Prop} {σ : Sig} {st : Store} {w : World} (v : V) (c c' : List Value) (h : RelC P S σ st w v c) (h' : RelC P S σ st w v c') : c.length = c'.length := by
  cases hv : v.isAgg
  · obtain ⟨u, rfl⟩ := h.single hv
    obtain ⟨u', rfl⟩ := h'.single hv
    rfl
  · cases v with
    | d x =>
      cases x with
      | agg t ds =>
        obtain ⟨css, rfl, h2, _⟩ := h
        obtain ⟨css', rfl, h2', _⟩ := h'
        rw [length_flatten', length_flatten']
        rw [h2] at h2'
        rw [Option.some.inj h2']
      | _ => simp [V.isAgg] at hv
    | agg t ds =>
      obtain ⟨css, rfl, h2, _⟩ := h
      obtain ⟨css', rfl, h2', _⟩ := h'
      rw [length_flatten', length_flatten']
      rw [h2] at h2'
      rw [Option.some.inj h2']
    | _ => simp [V.isAgg] at hv
section path
variable {P : Program} {S : Nat → Prop} {σ : Sig} {st : Store} {w : World}
/-- Where a part of a value lies among its cells. -/
theorem getPath_cells : ∀ (path : List (TypeId × Nat)) (v x : V) (c : List Value), RelC P S σ st w v c → getPath v path = some x →
    ∃ off cx, pathOff P path = some off ∧ RelC P S σ st w x cx ∧ off + cx.length ≤ c.length ∧ ∀ j, j < cx.length → c[off + j]? = cx[j]?
  | [], v, x, c, h, hp => by
    have : getPath v [] = some v := by cases v <;> rfl
    rw [this] at hp; cases hp
    exact ⟨0, c, rfl, h, by omega, fun j _ => by rw [Nat.zero_add]⟩
  | (t', i) :: r, v, x, c, h, hp => by
    have step : ∀ (t : TypeId) (css : List (List Value)) (ci : List Value) (y : V), c = css.flatten → comps P t = some (css.map List.length) → css[i]? = some ci → t = t' → RelC P S σ st w y ci → getPath y r = some x →
        ∃ off cx, pathOff P ((t', i) :: r) = some off ∧ RelC P S σ st w x cx ∧ off + cx.length ≤ c.length ∧ ∀ j, j < cx.length → c[off + j]? = cx[j]? := by
      intro t css ci y hc hcomp hci ht hy hg
      subst hc; subst ht
      obtain ⟨off, cx, h1, h2, h3, h4⟩ := getPath_cells r y x ci hy hg
      obtain ⟨g1, g2⟩ := flatten_at hci
      have hlt : i < (css.map List.length).length := by simpa using (List.getElem?_eq_some_iff.1 hci).1
      refine ⟨((css.map List.length).take i).sum + off, cx, ?_, h2, by omega, fun j hj => ?_⟩
      · simp only [pathOff, hcomp, h1, if_pos hlt]
      · rw [← h4 j hj, ← g2 (off + j) (by omega)]
        congr 1; omega
    cases v with
    | d z =>
      cases z with
      | agg t ds =>
        simp only [getPath] at hp
        split at hp
        · rename_i ht
          split at hp
          · rename_i y hy
            obtain ⟨css, hc, hcomp, hf⟩ := h
            rw [nth_eq] at hy
            obtain ⟨ci, hci, hfl⟩ := fls_at hf hy
            exact step t css ci (.d y) hc hcomp hci ht hfl hp
          · cases hp
        · cases hp
      | _ => simp [getPath] at hp
    | agg t vs =>
      simp only [getPath] at hp
      split at hp
      · rename_i ht
        split at hp
        · rename_i y hy
          obtain ⟨css, hc, hcomp, hf⟩ := h
          rw [nth_eq] at hy
          obtain ⟨ci, hci, hfl⟩ := rels_at hf hy
          exact step t css ci y hc hcomp hci ht hfl hp
        · cases hp
      · cases hp
    | _ => simp [getPath] at hp

theorem allD_rels : ∀ {vs : List V} {ds : List D} {css : List (List Value)}, allD vs = some ds → RelC.rels P S σ st w vs css → Fl.fls P S w ds css
  | [], _, _, h, hr => by cases h; exact hr
  | .d x :: vs, ds, css, h, hr => by
    simp only [allD, Option.map_eq_some_iff] at h
    obtain ⟨r, h1, rfl⟩ := h
    obtain ⟨c, q, rfl, h2, h3⟩ := hr
    exact ⟨c, q, rfl, h2, allD_rels h1 h3⟩
  | .agg .. :: _, _, _, h, _ | .p .. :: _, _, _, h, _ | .rs .. :: _, _, _, h, _ | .mp .. :: _, _, _, h, _ | .nils _ :: _, _, _, h, _ | .nila _ :: _, _, _, h, _ | .nilm :: _, _, _, h, _ | .fn .. :: _, _, _, h, _ | .jk :: _, _, _, h, _
  | .tup _ :: _, _, _, h, _ | .und :: _, _, _, h, _ => by simp [allD] at h
theorem mkAgg_rel {t : TypeId} {vs : List V} {css : List (List Value)} (hc : comps P t = some (css.map List.length)) (hr : RelC.rels P S σ st w vs css) : RelC P S σ st w (mkAgg t vs) css.flatten := by
  unfold mkAgg
  split
  · rename_i ds hd
    exact ⟨css, rfl, hc, allD_rels hd hr⟩
  · exact ⟨css, rfl, hc, hr⟩
theorem fls_set : ∀ {ds : List D} {css : List (List Value)} {i : Nat} {d : D} {c : List Value}, Fl.fls P S w ds css → Fl P S w d c → Fl.fls P S w (ds.set i d) (css.set i c)
  | [], _, _, _, _, h, _ => by cases h; simp [Fl.fls]
  | x :: ds, _, i, d, c', h, hc => by
    obtain ⟨c, r, rfl, h2, h3⟩ := h
    cases i with
    | zero => exact ⟨c', r, rfl, hc, h3⟩
    | succ i => exact ⟨c, r.set i c', rfl, h2, fls_set h3 hc⟩
/-- A part of a value put in the place of another. -/
theorem setPath_cells : ∀ (path : List (TypeId × Nat)) (v old x v' : V) (c cold cx : List Value), RelC P S σ st w v c → getPath v path = some old → RelC P S σ st w old cold → RelC P S σ st w x cx → cx.length = cold.length →
    setPath v path x = some v' → ∃ off, pathOff P path = some off ∧ off + cx.length ≤ c.length ∧ RelC P S σ st w v' (c.take off ++ cx ++ c.drop (off + cx.length))
  | [], v, old, x, v', c, cold, cx, h, hg, ho, hx, hl, hs => by
    have e1 : getPath v [] = some v := by cases v <;> rfl
    have e2 : setPath v [] x = some x := by cases v <;> rfl
    rw [e1] at hg; rw [e2] at hs
    cases hg; cases hs
    obtain ⟨off, cx', h1, h2, h3, h4⟩ := getPath_cells [] v v c h e1
    have hlen : c.length = cold.length := RelC.len_unique v _ _ h ho
    refine ⟨0, rfl, by omega, ?_⟩
    rw [List.take_zero, List.nil_append, List.drop_of_length_le (by omega), List.append_nil]
    exact hx
  | (t', i) :: r, v, old, x, v', c, cold, cx, h, hg, ho, hx, hl, hs => by
    cases v with
    | d z =>
      cases z with
      | agg t ds =>
        simp only [getPath] at hg
        simp only [setPath] at hs
        split at hg
        · rename_i ht
          rw [if_pos ht] at hs
          split at hg
          · rename_i y hy
            rw [hy] at hs
            simp only at hs
            obtain ⟨css, rfl, hcomp, hf⟩ := h
            rw [nth_eq] at hy
            obtain ⟨ci, hci, hfl⟩ := fls_at hf hy
            cases hq : setPath (.d y) r x with
            | none => rw [hq] at hs; simp at hs
            | some q =>
              obtain ⟨off, h1, h2, h3⟩ := setPath_cells r (.d y) old x q ci cold cx hfl hg ho hx hl hq
              obtain ⟨g1, g2⟩ := flatten_at hci
              have hlt : i < (css.map List.length).length := by simpa using (List.getElem?_eq_some_iff.1 hci).1
              have hcl : (ci.take off ++ cx ++ ci.drop (off + cx.length)).length = ci.length := by simp; omega
              have hfs := flatten_set hci hcl
              refine ⟨((css.map List.length).take i).sum + off, ?_, by omega, ?_⟩
              · subst ht; simp only [pathOff, hcomp, h1, if_pos hlt]
              · have hwant : css.flatten.take (((css.map List.length).take i).sum + off) ++ cx ++ css.flatten.drop (((css.map List.length).take i).sum + off + cx.length) = (css.set i (ci.take off ++ cx ++ ci.drop (off + cx.length))).flatten := by
                  rw [hfs]
                  exact splice_in g1 g2 h2
                rw [hwant]
                have hcomp' : comps P t = some ((css.set i (ci.take off ++ cx ++ ci.drop (off + cx.length))).map List.length) := by rw [map_length_set hci hcl]; exact hcomp
                rw [hq] at hs
                cases q with
                | d q' =>
                  simp only [Option.some.injEq] at hs
                  subst hs
                  rw [setN_eq]
                  exact ⟨_, rfl, hcomp', fls_set hf h3⟩
                | _ =>
                  simp only [Option.some.injEq] at hs
                  subst hs
                  rw [setN_eq]
                  exact ⟨_, rfl, hcomp', rels_set (rels_map hf) h3⟩
          · cases hg
        · cases hg
      | _ => simp [getPath] at hg
    | agg t vs =>
      simp only [getPath] at hg
      simp only [setPath] at hs
      split at hg
      · rename_i ht
        rw [if_pos ht] at hs
        split at hg
        · rename_i y hy
          rw [hy] at hs
          simp only at hs
          obtain ⟨css, rfl, hcomp, hf⟩ := h
          rw [nth_eq] at hy
          obtain ⟨ci, hci, hfl⟩ := rels_at hf hy
          cases hq : setPath y r x with
          | none => rw [hq] at hs; simp at hs
          | some q =>
            obtain ⟨off, h1, h2, h3⟩ := setPath_cells r y old x q ci cold cx hfl hg ho hx hl hq
            obtain ⟨g1, g2⟩ := flatten_at hci
            have hlt : i < (css.map List.length).length := by simpa using (List.getElem?_eq_some_iff.1 hci).1
            have hcl : (ci.take off ++ cx ++ ci.drop (off + cx.length)).length = ci.length := by simp; omega
            have hfs := flatten_set hci hcl
            refine ⟨((css.map List.length).take i).sum + off, ?_, by omega, ?_⟩
            · subst ht; simp only [pathOff, hcomp, h1, if_pos hlt]
            · have hwant : css.flatten.take (((css.map List.length).take i).sum + off) ++ cx ++ css.flatten.drop (((css.map List.length).take i).sum + off + cx.length) = (css.set i (ci.take off ++ cx ++ ci.drop (off + cx.length))).flatten := by
                rw [hfs]
                exact splice_in g1 g2 h2
              rw [hwant]
              have hcomp' : comps P t = some ((css.set i (ci.take off ++ cx ++ ci.drop (off + cx.length))).map List.length) := by rw [map_length_set hci hcl]; exact hcomp
              rw [hq] at hs
              simp only [Option.some.injEq] at hs
              subst hs
              rw [setN_eq]
              exact mkAgg_rel hcomp' (rels_set hf h3)
        · cases hg
      · cases hg
    | _ => simp [getPath] at hg
end path
end Go.Ev
end
section
set_option linter.unusedVariables false
set_option linter.unusedSimpArgs false
set_option linter.unusedSectionVars false
namespace Go.Ev
open Go.RowKit

theorem keq_iff {k k' : Key} : keq k k' = true ↔ k = k' := by
  obtain ⟨a, b⟩ := k
  obtain ⟨c, d⟩ := k'
  simp [keq]
theorem upd_same (st : Store) (k : Key) (b : Blk) : upd st k b k = b := by simp [upd, keq_iff.2 rfl]
theorem upd_other (st : Store) (k : Key) (b : Blk) {k' : Key} (h : k' ≠ k) : upd st k b k' = st k' := by
  have : keq k' k = false := by
    cases hq : keq k' k
    · rfl
    · exact absurd (keq_iff.1 hq) h
  simp [upd, this]
def updS (σ : Sig) (k : Key) (x : Option (Nat × Nat)) : Sig := fun k' => if k' = k then x else σ k'
theorem updS_same (σ : Sig) (k : Key) (x : Option (Nat × Nat)) : updS σ k x k = x := by simp [updS]
theorem updS_other (σ : Sig) (k : Key) (x : Option (Nat × Nat)) {k' : Key} (h : k' ≠ k) : updS σ k x k' = σ k' := by simp [updS, h]

/-- An operation's run answers as the evaluator does. -/
def OpOk (P : Program) (B0 : Nat) (S : Nat → Prop) (σ : Sig) (st : Store) (w : World) (r : Result Next) (v : V) (st' : Store) : Prop :=
  ∃ (val : Value) (nx : Next) (w' : World) (S' : Nat → Prop) (σ' : Sig), r = .ok nx w' ∧ (nx = .value val ∨ (nx = .skip ∧ val = undef)) ∧ Inv P B0 S' σ' st' w' ∧ Evo B0 S σ st w S' σ' st' w' ∧
    Below B0 w w' ∧ RelV P S' σ' st' w' v val

section
variable {P : Program} {B0 : Nat} {S : Nat → Prop} {σ : Sig} {st : Store} {w : World}

theorem OpOk.same {r : Result Next} {v : V} {val : Value} (hI : Inv P B0 S σ st w) (hr : r = .ok (.value val) w) (h : RelV P S σ st w v val) : OpOk P B0 S σ st w r v st :=
  ⟨val, _, w, S, σ, hr, .inl rfl, hI, Evo.refl .., Below.refl _ _, h⟩

theorem splice_take {L cx : List Value} {p N : Nat} (h1 : p + cx.length ≤ N) (h2 : N ≤ L.length) :
    (L.take p ++ cx ++ L.drop (p + cx.length)).take N = (L.take N).take p ++ cx ++ (L.take N).drop (p + cx.length) := by
  have hF : (L.take N).length = N := by simp; omega
  have e1 : L.take p = (L.take N).take p := by rw [List.take_take, Nat.min_eq_left (by omega)]
  have e2 : L.drop (p + cx.length) = (L.take N).drop (p + cx.length) ++ L.drop N := by
    conv => lhs; rw [← List.take_append_drop N L]
    rw [List.drop_append, hF, show p + cx.length - N = 0 by omega]; simp
  rw [e1, e2, ← List.append_assoc]
  have hl : ((L.take N).take p ++ cx ++ (L.take N).drop (p + cx.length)).length = N := by
    simp only [List.length_append, List.length_drop, hF]
    rw [List.length_take, hF]; omega
  conv => lhs; rw [← hl]
  rw [hl]
  exact List.take_left' hl

theorem alloc_size (w : World) (o : Obj) : (w.alloc o).heap.size = w.heap.size + 1 := by show (w.heap.push o).size = _; simp
theorem take_sum_const {css : List (List Value)} {s i : Nat} (h : ∀ c ∈ css, c.length = s) (hi : i ≤ css.length) : ((css.map List.length).take i).sum = i * s := by
  induction css generalizing i with
  | nil => simp at hi; subst hi; simp
  | cons c r ih =>
    cases i with
    | zero => simp
    | succ i =>
      simp only [List.map_cons, List.take_succ_cons, List.sum_cons]
      rw [ih (fun c' hc' => h c' (by simp [hc'])) (by simpa using hi), h c (by simp), Nat.succ_mul]; omega

/-! ### a new row -/
theorem newBlk_ok {k : Key} {e : TypeId} {vs : List V} {css : List (List Value)} {cur : Array Value} {cap : Nat} {w0 : World} (hI : Inv P B0 S σ st w0) (hw : w0.heap = w.heap) (hb : Below B0 w0 w)
    (hpos : 0 < szOf P e) (hcss : ∀ c ∈ css, c.length = szOf P e) (hrel : RelC.rels P S σ st w vs css)
    (hsz : cur.size = cap * szOf P e) (hle : vs.length ≤ cap) (hcap : cap ≤ maxLen) (htake : cur.toList.take (vs.length * szOf P e) = css.flatten) :
    Inv P B0 S (updS σ k (some (w.heap.size, cap))) (newBlk st k e vs) (w.alloc (.cells cur e)) ∧ Evo B0 S σ st w S (updS σ k (some (w.heap.size, cap))) (newBlk st k e vs) (w.alloc (.cells cur e)) ∧
    Below B0 w0 (w.alloc (.cells cur e)) := by
  have hold : ∀ b, b < w.heap.size → (w.alloc (.cells cur e)).heap[b]? = w.heap[b]? := fun b hb => heap_alloc_old w _ hb
  have hE : Evo B0 S σ st w S (updS σ k (some (w.heap.size, cap))) (newBlk st k e vs) (w.alloc (.cells cur e)) := by
    refine ⟨by rw [alloc_size]; omega, fun _ h => .inl h, fun _ h => h, fun b hb => hold b (hw ▸ hI.safe b hb), fun k' => ?_, fun k' hv hl => ?_⟩
    · by_cases hk : k' = k
      · subst hk; simp [newBlk, upd_same]
      · simp [newBlk, upd_other _ _ _ hk]
    · by_cases hk : k' = k
      · subst hk; simp [newBlk, upd_same] at hv
      · rw [newBlk, upd_other _ _ _ hk] at hv hl
        rw [newBlk, upd_other _ _ _ hk]
        exact ⟨hl, updS_other _ _ _ hk, rfl⟩
  refine ⟨⟨?_, ?_, ?_, ?_⟩, hE, hb.trans (Below.alloc (Below.refl _ _) (hw ▸ hI.base) _)⟩
  · have := hI.base; rw [alloc_size, ← hw]; omega
  · intro b hb; have := hI.safe b hb; rw [alloc_size, ← hw]; omega
  · intro k' hl
    by_cases hk : k' = k
    · subst hk
      refine ⟨fun h => by simp [updS_same] at h, fun b c h => ?_⟩
      simp [updS_same] at h
      obtain ⟨rfl, rfl⟩ := h
      refine ⟨hw ▸ hI.base, by rw [alloc_size]; omega, fun hs => ?_, _, heap_alloc_new w _, ?_⟩
      · have := hI.safe _ hs; rw [hw] at this; omega
      · simp only [newBlk, upd_same]
        exact .inl ⟨hpos, cur, css, rfl, hsz, hle, hcap, htake, hcss, RelC.monos hE vs css hrel⟩
    · rw [newBlk, upd_other _ _ _ hk] at hl
      obtain ⟨h2, h3⟩ := hI.own k' hl
      refine ⟨fun h => ?_, fun b c h => ?_⟩
      · rw [newBlk, upd_other _ _ _ hk]; rw [updS_other _ _ _ hk] at h; exact h2 h
      · rw [updS_other _ _ _ hk] at h
        obtain ⟨g1, g2, g3, o, g4, g5⟩ := h3 b c h
        rw [hw] at g2 g4
        refine ⟨g1, by rw [alloc_size]; omega, g3, o, (hold b g2).trans g4, ?_⟩
        rw [newBlk, upd_other _ _ _ hk]
        have hE0 : Evo B0 S σ st w0 S σ st w := ⟨by rw [hw]; exact Nat.le_refl _, fun _ h => .inl h, fun _ h => h, fun b _ => by rw [hw], fun _ => Nat.le_refl _, fun _ _ h => ⟨h, rfl, rfl⟩⟩
        exact Holds.mono (hE0.trans hE) g5
  · intro k1 k2 l1 l2 hne b c b' c' e1 e2
    have hlt : ∀ k' b c, (st k').live = true → σ k' = some (b, c) → b < w.heap.size := fun k' b c hl h => hw ▸ ((hI.own k' hl).some b c h).2.1
    by_cases hk1 : k1 = k
    · subst hk1
      have hk2 : k2 ≠ k1 := fun h => hne h.symm
      rw [updS_same] at e1; rw [updS_other _ _ _ hk2] at e2
      rw [newBlk, upd_other _ _ _ hk2] at l2
      have := hlt k2 b' c' l2 e2
      simp at e1; omega
    · rw [updS_other _ _ _ hk1] at e1
      rw [newBlk, upd_other _ _ _ hk1] at l1
      by_cases hk2 : k2 = k
      · subst hk2
        rw [updS_same] at e2
        have := hlt k1 b c l1 e1
        simp at e2; omega
      · rw [updS_other _ _ _ hk2] at e2
        rw [newBlk, upd_other _ _ _ hk2] at l2
        exact hI.inj k1 k2 l1 l2 hne b c b' c' e1 e2

theorem rels_one {v : V} {c : List Value} (h : RelC P S σ st w v c) : RelC.rels P S σ st w [v] [c] := ⟨c, [], rfl, h, rfl⟩

/-- A new variable. -/
theorem newVar_ok {k : Key} {t : TypeId} {v : V} {cells : Array Value} (hI : Inv P B0 S σ st w) (ht : hasT P t v = true) (hc : RelC P S σ st w v cells.toList) :
    ∃ σ', Inv P B0 S σ' (newBlk st k t [v]) (w.alloc (.cells cells t)) ∧ Evo B0 S σ st w S σ' (newBlk st k t [v]) (w.alloc (.cells cells t)) ∧ Below B0 w (w.alloc (.cells cells t)) ∧
      RelV P S σ' (newBlk st k t [v]) (w.alloc (.cells cells t)) (.p k ((st k).ver + 1) 0 []) (.pointer (some ⟨w.heap.size, 0, none⟩)) := by
  have hl := hasT_length ht hc
  have hpos : 0 < szOf P t := by
    cases hv : v.isAgg
    · rcases hasT_one ht hv with h' | ⟨e, h'⟩
      · have := (tk_one h').1; omega
      · have := (tk_sl h').2.1; omega
    · obtain ⟨⟨n, r, hn⟩, _⟩ := hasT_agg ht hv
      obtain ⟨⟨l, hl', _⟩, _⟩ := tk_agg hn
      exact comps_szpos hl'
  obtain ⟨h1, h2, h3⟩ := newBlk_ok (k := k) (e := t) (vs := [v]) (css := [cells.toList]) (cur := cells) (cap := 1) hI rfl (Below.refl _ _) hpos (by simpa using hl) (rels_one hc)
    (by simpa using hl) (by simp) (by simp [maxLen]) (by simp; rw [List.take_of_length_le (by simpa using Nat.le_of_eq hl)])
  refine ⟨_, h1, h2, h3, ?_⟩
  refine .inr (.inr ⟨rfl, ⟨w.heap.size, 0, none⟩, rfl, by simp [newBlk, upd_same], fun _ _ => ⟨by simpa [newBlk, upd_same] using hpos, w.heap.size, 1, 0, by simp [updS_same], rfl, by simp⟩⟩)

/-! ### writing a row -/
/-- A row with other contents, at the same place: what is written, the version kept or raised. -/
theorem setRow_ok {k : Key} {vs' : List V} {css' : List (List Value)} {cur' : Array Value} {b cap v' : Nat} (hI : Inv P B0 S σ st w) (hpos : 0 < szOf P (st k).e) (hlive : (st k).live = true) (hσ : σ k = some (b, cap)) (hv : (st k).ver ≤ v')
    (hrel : RelC.rels P S σ st w vs' css') (hcss : ∀ c ∈ css', c.length = szOf P (st k).e) (hsz : cur'.size = cap * szOf P (st k).e) (hle : vs'.length ≤ cap)
    (htake : cur'.toList.take (vs'.length * szOf P (st k).e) = css'.flatten) :
    Inv P B0 S σ (upd st k ⟨v', (st k).e, vs', true⟩) (w.setRow b cur') ∧ Evo B0 S σ st w S σ (upd st k ⟨v', (st k).e, vs', true⟩) (w.setRow b cur') ∧ Below B0 w (w.setRow b cur') := by
  obtain ⟨_, hsome⟩ := (hI.own k hlive).row hpos
  obtain ⟨g1, g2, g3, cur, css, g4, g5, g6, g7, g8, g9, g10⟩ := hsome b cap hσ
  have hE : Evo B0 S σ st w S σ (upd st k ⟨v', (st k).e, vs', true⟩) (w.setRow b cur') := by
    refine ⟨by simp [World.setRow], fun _ h => .inl h, fun _ h => h, fun b' hb => setRow_other w b b' cur' (fun h => g3 (h ▸ hb)), fun k' => ?_, fun k' hv' hl => ?_⟩
    · by_cases hk : k' = k
      · subst hk; simpa [upd_same] using hv
      · simp [upd_other _ _ _ hk]
    · by_cases hk : k' = k
      · subst hk; exact ⟨hlive, rfl, by simp [upd_same]⟩
      · rw [upd_other _ _ _ hk] at hl ⊢
        exact ⟨hl, rfl, rfl⟩
  have hsize : (w.setRow b cur').heap.size = w.heap.size := by simp [World.setRow]
  refine ⟨⟨by rw [hsize]; exact hI.base, fun b' hb' => by rw [hsize]; exact hI.safe b' hb', ?_, ?_⟩, hE, ?_⟩
  · intro k' hl
    by_cases hk : k' = k
    · subst hk
      refine ⟨fun h => (by rw [hσ] at h; cases h), fun b' c' h => ?_⟩
      rw [hσ] at h; cases h
      refine ⟨g1, by rw [hsize]; exact g2, g3, _, setRow_heap w b cur cur' _ _ g4, ?_⟩
      simp only [upd_same]
      exact .inl ⟨hpos, cur', css', rfl, hsz, hle, g7, htake, hcss, RelC.monos hE vs' css' hrel⟩
    · rw [upd_other _ _ _ hk] at hl
      obtain ⟨h2, h3⟩ := hI.own k' hl
      refine ⟨fun h => by rw [upd_other _ _ _ hk]; exact h2 h, fun b' c' h => ?_⟩
      obtain ⟨f1, f2, f3, o, f4, f5⟩ := h3 b' c' h
      have hne : b' ≠ b := hI.inj k' k hl hlive hk b' c' b cap h hσ
      refine ⟨f1, by rw [hsize]; exact f2, f3, o, (setRow_other w b b' cur' hne).trans f4, ?_⟩
      rw [upd_other _ _ _ hk]
      exact Holds.mono hE f5
  · intro k1 k2 l1 l2 hne
    refine hI.inj k1 k2 ?_ ?_ hne
    · by_cases hk : k1 = k
      · subst hk; exact hlive
      · rw [upd_other _ _ _ hk] at l1; exact l1
    · by_cases hk : k2 = k
      · subst hk; exact hlive
      · rw [upd_other _ _ _ hk] at l2; exact l2
  · exact ⟨rfl, rfl, rfl, by rw [hsize]; exact Nat.le_refl _, fun i hi => setRow_other w b i cur' (by omega)⟩

/-- A new map. -/
theorem newMap_ok {k : Key} {e : TypeId} (hI : Inv P B0 S σ st w) (hz : szOf P e = 0) :
    Inv P B0 S (updS σ k (some (w.heap.size, 0))) (newBlk st k e []) (w.alloc (.map #[] 0)) ∧ Evo B0 S σ st w S (updS σ k (some (w.heap.size, 0))) (newBlk st k e []) (w.alloc (.map #[] 0)) ∧
    Below B0 w (w.alloc (.map #[] 0)) := by
  have hold : ∀ b, b < w.heap.size → (w.alloc (.map #[] 0)).heap[b]? = w.heap[b]? := fun b hb => heap_alloc_old w _ hb
  have hE : Evo B0 S σ st w S (updS σ k (some (w.heap.size, 0))) (newBlk st k e []) (w.alloc (.map #[] 0)) := by
    refine ⟨by rw [alloc_size]; omega, fun _ h => .inl h, fun _ h => h, fun b hb => hold b (hI.safe b hb), fun k' => ?_, fun k' hv hl => ?_⟩
    · by_cases hk : k' = k
      · subst hk; simp [newBlk, upd_same]
      · simp [newBlk, upd_other _ _ _ hk]
    · by_cases hk : k' = k
      · subst hk; simp [newBlk, upd_same] at hv
      · rw [newBlk, upd_other _ _ _ hk] at hv hl
        rw [newBlk, upd_other _ _ _ hk]
        exact ⟨hl, updS_other _ _ _ hk, rfl⟩
  refine ⟨⟨?_, ?_, ?_, ?_⟩, hE, Below.alloc (Below.refl _ _) hI.base _⟩
  · have := hI.base; rw [alloc_size]; omega
  · intro b hb; have := hI.safe b hb; rw [alloc_size]; omega
  · intro k' hl
    by_cases hk : k' = k
    · subst hk
      refine ⟨fun h => by simp [updS_same] at h, fun b c h => ?_⟩
      simp [updS_same] at h
      obtain ⟨rfl, rfl⟩ := h
      refine ⟨hI.base, by rw [alloc_size]; omega, fun hs => ?_, _, heap_alloc_new w _, ?_⟩
      · have := hI.safe _ hs; omega
      · simp only [newBlk, upd_same]
        exact .inr ⟨hz, #[], 0, rfl, rfl, MapKept.stamped_empty 0⟩
    · rw [newBlk, upd_other _ _ _ hk] at hl
      obtain ⟨h2, h3⟩ := hI.own k' hl
      refine ⟨fun h => ?_, fun b c h => ?_⟩
      · rw [newBlk, upd_other _ _ _ hk]; rw [updS_other _ _ _ hk] at h; exact h2 h
      · rw [updS_other _ _ _ hk] at h
        obtain ⟨g1, g2, g3, o, g4, g5⟩ := h3 b c h
        refine ⟨g1, by rw [alloc_size]; omega, g3, o, (hold b g2).trans g4, ?_⟩
        rw [newBlk, upd_other _ _ _ hk]
        exact Holds.mono hE g5
  · intro k1 k2 l1 l2 hne b c b' c' e1 e2
    have hlt : ∀ k' b c, (st k').live = true → σ k' = some (b, c) → b < w.heap.size := fun k' b c hl h => ((hI.own k' hl).some b c h).2.1
    by_cases hk1 : k1 = k
    · subst hk1
      have hk2 : k2 ≠ k1 := fun h => hne h.symm
      rw [updS_same] at e1; rw [updS_other _ _ _ hk2] at e2
      rw [newBlk, upd_other _ _ _ hk2] at l2
      have := hlt k2 b' c' l2 e2
      simp at e1; omega
    · rw [updS_other _ _ _ hk1] at e1
      rw [newBlk, upd_other _ _ _ hk1] at l1
      by_cases hk2 : k2 = k
      · subst hk2
        rw [updS_same] at e2
        have := hlt k1 b c l1 e1
        simp at e2; omega
      · rw [updS_other _ _ _ hk2] at e2
        rw [newBlk, upd_other _ _ _ hk2] at l2
        exact hI.inj k1 k2 l1 l2 hne b c b' c' e1 e2

/-- A map with other entries, at the same place. -/
theorem setMap_ok {k : Key} {vs' : List V} {es' : Array MapEntry} {b cap clock' : Nat} (hI : Inv P B0 S σ st w) (h0 : szOf P (st k).e = 0) (hlive : (st k).live = true) (hσ : σ k = some (b, cap))
    (hrel : MapRel P S σ st w vs' es'.toList) (hst : MapKept.Stamped es' clock') :
    Inv P B0 S σ (upd st k ⟨(st k).ver, (st k).e, vs', true⟩) ({ w with heap := w.heap.setIfInBounds b (.map es' clock') } : World) ∧ Evo B0 S σ st w S σ (upd st k ⟨(st k).ver, (st k).e, vs', true⟩) ({ w with heap := w.heap.setIfInBounds b (.map es' clock') } : World) ∧
    Below B0 w ({ w with heap := w.heap.setIfInBounds b (.map es' clock') } : World) := by
  obtain ⟨g1, g2, g3, o0, g4, g5⟩ := (hI.own k hlive).some b cap hσ
  have hother : ∀ r', r' ≠ b → (w.heap.setIfInBounds b (.map es' clock'))[r']? = w.heap[r']? := (MapKept.heap_set g4).2
  have hE : Evo B0 S σ st w S σ (upd st k ⟨(st k).ver, (st k).e, vs', true⟩) ({ w with heap := w.heap.setIfInBounds b (.map es' clock') } : World) := by
    refine ⟨by simp, fun _ h => .inl h, fun _ h => h, fun b' hb => hother b' (fun h => g3 (h ▸ hb)), fun k' => ?_, fun k' hv' hl => ?_⟩
    · by_cases hk : k' = k
      · subst hk; simp [upd_same]
      · simp [upd_other _ _ _ hk]
    · by_cases hk : k' = k
      · subst hk; exact ⟨hlive, rfl, by simp [upd_same]⟩
      · rw [upd_other _ _ _ hk] at hl ⊢
        exact ⟨hl, rfl, rfl⟩
  have hsize : ({ w with heap := w.heap.setIfInBounds b (.map es' clock') } : World).heap.size = w.heap.size := by simp
  refine ⟨⟨by rw [hsize]; exact hI.base, fun b' hb' => by rw [hsize]; exact hI.safe b' hb', ?_, ?_⟩, hE, ?_⟩
  · intro k' hl
    by_cases hk : k' = k
    · subst hk
      refine ⟨fun h => (by rw [hσ] at h; cases h), fun b' c' h => ?_⟩
      rw [hσ] at h; cases h
      refine ⟨g1, by rw [hsize]; exact g2, g3, _, (MapKept.heap_set g4).1, ?_⟩
      simp only [upd_same]
      exact .inr ⟨h0, es', clock', rfl, MapRel.mono hE hrel, hst⟩
    · rw [upd_other _ _ _ hk] at hl
      obtain ⟨h2, h3⟩ := hI.own k' hl
      refine ⟨fun h => by rw [upd_other _ _ _ hk]; exact h2 h, fun b' c' h => ?_⟩
      obtain ⟨f1, f2, f3, o, f4, f5⟩ := h3 b' c' h
      have hne : b' ≠ b := hI.inj k' k hl hlive hk b' c' b cap h hσ
      refine ⟨f1, by rw [hsize]; exact f2, f3, o, (hother b' hne).trans f4, ?_⟩
      rw [upd_other _ _ _ hk]
      exact Holds.mono hE f5
  · intro k1 k2 l1 l2 hne
    refine hI.inj k1 k2 ?_ ?_ hne
    · by_cases hk : k1 = k
      · subst hk; exact hlive
      · rw [upd_other _ _ _ hk] at l1; exact l1
    · by_cases hk : k2 = k
      · subst hk; exact hlive
      · rw [upd_other _ _ _ hk] at l2; exact l2
  · exact ⟨rfl, rfl, rfl, by rw [hsize]; exact Nat.le_refl _, fun i hi => hother i (by omega)⟩

/-! ### an element of a row -/
theorem elem_cells {k : Key} {b cap i : Nat} {v : V} (hI : Inv P B0 S σ st w) (hpos : 0 < szOf P (st k).e) (hlive : (st k).live = true) (hσ : σ k = some (b, cap)) (hi : (st k).vs[i]? = some v) :
    ∃ (cur : Array Value) (css : List (List Value)) (c : List Value), w.heap[b]? = some (.cells cur (st k).e (0, 0)) ∧ css[i]? = some c ∧ RelC P S σ st w v c ∧ c.length = szOf P (st k).e ∧
      i * szOf P (st k).e + c.length ≤ css.flatten.length ∧ (∀ j, j < c.length → css.flatten[i * szOf P (st k).e + j]? = c[j]?) ∧ cur.toList.take ((st k).vs.length * szOf P (st k).e) = css.flatten ∧
      css.flatten.length ≤ cur.size ∧ css.flatten.length = (st k).vs.length * szOf P (st k).e ∧ (∀ c ∈ css, c.length = szOf P (st k).e) ∧ RelC.rels P S σ st w (st k).vs css ∧ cur.size = cap * szOf P (st k).e ∧ css.length = (st k).vs.length := by
  obtain ⟨_, hsome⟩ := (hI.own k hlive).row hpos
  obtain ⟨g1, g2, g3, cur, css, g4, g5, g6, g7, g8, g9, g10⟩ := hsome b cap hσ
  obtain ⟨c, hc, hrc⟩ := rels_at g10 hi
  have hcl := g9 c (List.mem_of_getElem? hc)
  have hlen := rels_length g10
  have hilt : i < css.length := (List.getElem?_eq_some_iff.1 hc).1
  obtain ⟨f1, f2⟩ := flatten_at hc
  rw [take_sum_const g9 (by omega)] at f1 f2
  have hfl : css.flatten.length = (st k).vs.length * szOf P (st k).e := by rw [length_flatten_eq g9, hlen]
  refine ⟨cur, css, c, g4, hc, hrc, hcl, f1, f2, g8, ?_, hfl, g9, g10, g5, hlen⟩
  rw [hfl, g5]
  exact Nat.mul_le_mul_right _ g6

theorem cell_of_take {cur : Array Value} {F : List Value} {N j : Nat} (h : cur.toList.take N = F) (hj : j < F.length) : cur[j]? = F[j]? := by
  have hN : j < N := by rw [← h] at hj; simp at hj; omega
  rw [← h, List.getElem?_take_of_lt hN]; simp

/-- Reading through a pointer into a row. -/
theorem load_ok {k : Key} {i : Nat} {path : List (TypeId × Nat)} {v x : V} {t : TypeId} {A : Addr} (hI : Inv P B0 S σ st w) (hlive : (st k).live = true) (hi : (st k).vs[i]? = some v) (hp : getPath v path = some x)
    (ht : hasT P t x = true) (hA : 0 < szOf P (st k).e ∧ ∃ b cap off, σ k = some (b, cap) ∧ pathOff P path = some off ∧ A = ⟨b, i * szOf P (st k).e + off, none⟩) :
    ∃ val, (loadVar t A).run P w = .ok val w ∧ RelV P S σ st w x val := by
  obtain ⟨hpos0, b, cap, off, hσ, hoff, rfl⟩ := hA
  obtain ⟨cur, css, c, h1, h2, h3, h4, h5, h6, h7, h8, h9, _⟩ := elem_cells hI hpos0 hlive hσ hi
  obtain ⟨off', cx, p1, p2, p3, p4⟩ := getPath_cells path v x c h3 hp
  rw [hoff] at p1; cases p1
  refine ⟨_, run_loadVar ht p2 ?_, (valOf_rel p2).v p2.not_tup⟩
  intro j u hj
  have hjl := (List.getElem?_eq_some_iff.1 hj).1
  rw [add_none, cell_of_row w b _ cur _ _ h1]
  have e1 : i * szOf P (st k).e + off + j = i * szOf P (st k).e + (off + j) := by omega
  rw [e1, cell_of_take h7 (by omega), h6 (off + j) (by omega), p4 j hjl, hj]

/-- Writing through a pointer into a row. -/
theorem store_ok {k : Key} {i : Nat} {path : List (TypeId × Nat)} {v old x v' : V} {val : Value} {t : TypeId} {A : Addr} (hI : Inv P B0 S σ st w) (hlive : (st k).live = true) (hi : (st k).vs[i]? = some v)
    (hp : getPath v path = some old) (hto : hasT P t old = true) (ht : hasT P t x = true) (hr : RelV P S σ st w x val) (hs : setPath v path x = some v')
    (hA : 0 < szOf P (st k).e ∧ ∃ b cap off, σ k = some (b, cap) ∧ pathOff P path = some off ∧ A = ⟨b, i * szOf P (st k).e + off, none⟩) :
    ∃ w', (storeVar t A val).run P w = .ok () w' ∧ Inv P B0 S σ (upd st k ⟨(st k).ver, (st k).e, setN (st k).vs i v', true⟩) w' ∧
      Evo B0 S σ st w S σ (upd st k ⟨(st k).ver, (st k).e, setN (st k).vs i v', true⟩) w' ∧ Below B0 w w' := by
  obtain ⟨hpos0, b, cap, off, hσ, hoff, rfl⟩ := hA
  obtain ⟨cur, css, c, h1, h2, h3, h4, h5, h6, h7, h8, h9, h10, h11, h12, h13⟩ := elem_cells hI hpos0 hlive hσ hi
  obtain ⟨hc, _⟩ := (hr.n (hasT_tup ht)).cells (hasT_und ht)
  obtain ⟨off', cold, p1, p2, p3, p4⟩ := getPath_cells path v old c h3 hp
  have hl1 := hasT_length hto p2
  have hl2 := hasT_length ht hc
  obtain ⟨off2, q1, q2, q3⟩ := setPath_cells path v old x v' c cold val.cells.toList h3 hp p2 hc (by omega) hs
  rw [hoff] at q1; cases q1
  have hpos : i * szOf P (st k).e + off + val.cells.toList.length ≤ cur.size := by omega
  have hst := run_storeCells_at P b (i * szOf P (st k).e + off) (st k).e val.cells.toList 0 cur w h1 (by simpa using hpos) (RelC.one _ _ hc)
  simp only [Nat.add_zero] at hst
  have hcl : (c.take off ++ val.cells.toList ++ c.drop (off + val.cells.toList.length)).length = c.length := by simp; simp at q2; omega
  have hil : i < css.length := (List.getElem?_eq_some_iff.1 h2).1
  have hfs := flatten_set h2 hcl
  rw [take_sum_const h10 (by omega)] at hfs
  have hsp := splice_in (A := i * szOf P (st k).e) h5 h6 q2
  have hset : RelC.rels P S σ st w (setN (st k).vs i v') (css.set i (c.take off ++ val.cells.toList ++ c.drop (off + val.cells.toList.length))) := by
    rw [setN_eq]; exact rels_set h11 q3
  have hvl : (setN (st k).vs i v').length = (st k).vs.length := by rw [setN_eq]; simp
  obtain ⟨r1, r2, r3⟩ := setRow_ok (k := k) (v' := (st k).ver) (vs' := setN (st k).vs i v') hI hpos0 hlive hσ (Nat.le_refl _) hset
    (by
      intro c' hc'
      rcases List.mem_or_eq_of_mem_set hc' with h | h
      · exact h10 c' h
      · rw [h, hcl, h4])
    (cur' := (cur.toList.take (i * szOf P (st k).e + off) ++ val.cells.toList ++ cur.toList.drop (i * szOf P (st k).e + off + val.cells.toList.length)).toArray)
    (by
      rw [← h12]
      simp only [List.size_toArray, List.length_append, List.length_take, List.length_drop, Array.length_toList]
      simp at hpos ⊢
      omega)
    (by
      rw [hvl]
      obtain ⟨_, hsome⟩ := (hI.own k hlive).row hpos0
      obtain ⟨_, _, _, cur2, css2, _, _, g6, _⟩ := hsome b cap hσ
      exact g6)
    (by
      rw [hvl]
      rw [hfs, ← hsp, ← h7]
      refine splice_take ?_ ?_
      · omega
      · rw [Array.length_toList]; omega)
  refine ⟨_, ?_, r1, r2, r3⟩
  unfold storeVar
  simp only [Sem.run_bind, run_sizeOf (hasT_bad ht), Result.andThen_ok]
  have hcs : val.cells.size = szOf P t := by simpa using hl2
  simp only [hcs, ne_eq, not_true_eq_false, if_false]
  simpa using hst
end
end Go.Ev
end
section
set_option linter.unusedVariables false
set_option linter.unusedSimpArgs false
set_option linter.unusedSectionVars false
namespace Go.Ev
open Go.RowKit

section
variable {P : Program} {S : Nat → Prop} {σ : Sig} {st : Store} {w : World}

theorem RelN.to_v {v : V} {val : Value} (h : RelN P S σ st w v val) : RelV P S σ st w v val := by
  cases v <;> first
    | exact h
    | (rcases h with h | ⟨h, _⟩ | ⟨_, h⟩
       · cases h
       · cases h
       · exact h.elim)
theorem RelC.to_v {v : V} {val : Value} (h : RelC P S σ st w v [val]) (hv : v.isAgg = false) : RelV P S σ st w v val := (RelN.to_v (.inr (.inr ⟨hv, h⟩)))
theorem relNs_at : ∀ {vs : List V} {vals : List Value} {i : Nat} {v : V}, RelNs P S σ st w vs vals → vs[i]? = some v → ∃ u, vals[i]? = some u ∧ RelN P S σ st w v u
  | [], _, _, _, _, h => by simp at h
  | x :: ds, _, i, d, h, hi => by
    obtain ⟨c, r, rfl, h2, h3⟩ := h
    cases i with
    | zero => simp at hi; subst hi; exact ⟨c, rfl, h2⟩
    | succ i => simp at hi; simpa using relNs_at h3 hi

theorem relV_int {k : IntKind} {n : Int} {val : Value} (h : RelV P S σ st w (.d (.int k n)) val) : val = .int k n := by
  rcases h with h | ⟨h, _⟩ | ⟨_, h⟩
  · cases h
  · cases h
  · simpa [RelC, Fl] using h
theorem relV_bool {b : Bool} {val : Value} (h : RelV P S σ st w (.d (.bool b)) val) : val = .bool b := by
  rcases h with h | ⟨h, _⟩ | ⟨_, h⟩
  · cases h
  · cases h
  · simpa [RelC, Fl] using h
theorem relV_str {s : ByteArray} {val : Value} (h : RelV P S σ st w (.d (.str s)) val) : val = .string s := by
  rcases h with h | ⟨h, _⟩ | ⟨_, h⟩
  · cases h
  · cases h
  · simpa [RelC, Fl] using h
theorem relV_one {v : V} {val : Value} (h : RelV P S σ st w v val) (h1 : v.isAgg = false) (h2 : v ≠ .und) (h3 : ∀ vs, v ≠ .tup vs) : RelC P S σ st w v [val] := by
  rcases h.n h3 with h | ⟨h, _⟩ | ⟨_, h⟩
  · exact absurd h h2
  · rw [h1] at h; cases h
  · exact h
theorem int_rel (k : IntKind) (n : Int) : RelV P S σ st w (.d (.int k n)) (.int k n) := RelC.to_v rfl rfl
theorem bool_rel (b : Bool) : RelV P S σ st w (.d (.bool b)) (.bool b) := RelC.to_v rfl rfl
theorem str_rel (s : ByteArray) : RelV P S σ st w (.d (.str s)) (.string s) := RelC.to_v rfl rfl
theorem und_rel (val : Value) : RelV P S σ st w .und val := RelN.to_v (.inl rfl)

/-- The frames agree. -/
def EnvRel (P : Program) (S : Nat → Prop) (σ : Sig) (st : Store) (w : World) (env : List V) (tmps : Array Value) : Prop :=
  env.length = tmps.size ∧ ∀ i, RelV P S σ st w (V.get env i) (tmps.getD i undef)
theorem EnvRel.mono {B0 : Nat} {S' : Nat → Prop} {σ' : Sig} {st' : Store} {w' : World} {env : List V} {tmps : Array Value} (h : EnvRel P S σ st w env tmps) (hE : Evo B0 S σ st w S' σ' st' w') : EnvRel P S' σ' st' w' env tmps :=
  ⟨h.1, fun i => RelV.mono hE (h.2 i)⟩
theorem EnvRel.put {env : List V} {tmps : Array Value} {v : V} {val : Value} (h : EnvRel P S σ st w env tmps) (hv : RelV P S σ st w v val) (d : Tmp) : EnvRel P S σ st w (V.put env d v) (tmps.setIfInBounds d val) := by
  refine ⟨by rw [put_eq]; simp [h.1], fun i => ?_⟩
  rw [put_eq, get_eq]
  by_cases hi : d = i
  · subst hi
    by_cases hlt : d < env.length
    · have h1 : (env.set d v).getD d .und = v := by simp [List.getD, hlt]
      have h2 : (tmps.setIfInBounds d val).getD d undef = val := by simp [Array.getD, ← h.1, hlt]
      rw [h1, h2]; exact hv
    · have h1 : (env.set d v).getD d .und = .und := by simp [List.getD, hlt]
      rw [h1]; exact und_rel _
  · have h1 : (env.set d v).getD i .und = V.get env i := by rw [get_eq]; simp [List.getD, List.getElem?_set_ne hi]
    have h2 : (tmps.setIfInBounds d val).getD i undef = tmps.getD i undef := by simp [Array.getD_eq_getD_getElem?, Array.getElem?_setIfInBounds_ne hi]
    rw [h1, h2]; exact h.2 i
theorem EnvRel.putD {env : List V} {a : Act} {v : V} {val : Value} (h : EnvRel P S σ st w env a.tmps) (hv : RelV P S σ st w v val) (d : Option Tmp) : EnvRel P S σ st w (Ev.putD env d v) (a.put d val).tmps := by
  cases d with
  | none => exact h
  | some d => exact h.put hv d

theorem evalT_rel {env : List V} {a : Act} (h : EnvRel P S σ st w env a.tmps) (t : TypeId) (o : Operand) : RelV P S σ st w (evalT P env t o) (a.eval o) := by
  cases o with
  | tmp i => exact h.2 i
  | func f => exact RelC.to_v ⟨[], rfl, rfl⟩ rfl
  | global g => exact und_rel _
  | const v =>
    cases v with
    | bool b => exact bool_rel b
    | int k n => exact int_rel k n
    | string s => exact str_rel s
    | slice A n c =>
      cases A with
      | some A => exact und_rel _
      | none =>
        simp only [evalT, constT]
        split
        · rename_i hc
          obtain ⟨rfl, rfl⟩ := hc
          split
          · exact RelC.to_v rfl rfl
          · exact und_rel _
        · exact und_rel _
    | pointer A =>
      cases A with
      | none => exact RelC.to_v rfl rfl
      | some A => exact und_rel _
    | map A =>
      cases A with
      | none => exact RelC.to_v rfl rfl
      | some A => exact und_rel _
    | _ => exact und_rel _
theorem evArgs_rel {env : List V} {a : Act} (h : EnvRel P S σ st w env a.tmps) : ∀ (ts : List TypeId) (os : List Operand), (∀ x ∈ os.zip (evArgs P env ts os), RelV P S σ st w x.2 (a.eval x.1))
  | [], [] => by simp [evArgs]
  | _ :: _, [] => by simp
  | [], o :: os => by
    intro x hx
    simp only [evArgs, List.zip_cons_cons, List.mem_cons] at hx
    rcases hx with rfl | hx
    · exact evalT_rel h _ _
    · exact evArgs_rel h [] os x hx
  | t :: ts, o :: os => by
    intro x hx
    simp only [evArgs, List.zip_cons_cons, List.mem_cons] at hx
    rcases hx with rfl | hx
    · exact evalT_rel h _ _
    · exact evArgs_rel h ts os x hx
theorem evArgs_length {env : List V} : ∀ (ts : List TypeId) (os : List Operand), (evArgs P env ts os).length = os.length
  | [], [] => rfl
  | _ :: _, [] => rfl
  | [], o :: os => by simp [evArgs, evArgs_length [] os]
  | t :: ts, o :: os => by simp [evArgs, evArgs_length ts os]

/-! ### numbers and truth -/
theorem run_part {e : TypeId} {y : V} {cs c : List Value} {off : Nat} (h : hasT P e y = true) (hr : RelC P S σ st w y c) (hl : off + c.length ≤ cs.length) (hx : ∀ j, j < c.length → cs[off + j]? = c[j]?) :
    (part e cs.toArray off).run P w = .ok (valOf y c) w := by
  have hlen := hasT_length h hr
  unfold part valOf
  cases hv : y.isAgg
  · obtain ⟨u, rfl⟩ := hr.single hv
    have := hx 0 (by simp)
    simp at this
    simp only [Sem.run_bind, tk_not_agg (hasT_one h hv), Result.andThen_ok]
    simp [this]
  · obtain ⟨⟨n, r, hn⟩, _⟩ := hasT_agg h hv
    simp only [Sem.run_bind, tk_is_agg hn, Result.andThen_ok]
    simp only [if_true, Sem.run_bind, run_sizeOf (hasT_bad h), Result.andThen_ok, Sem.run_pure]
    rw [← hlen]
    congr 2
    apply Array.ext'
    simp only [Array.toList_extract, List.extract_eq_take_drop, Nat.add_sub_cancel_left]
    apply List.ext_getElem?
    intro j
    by_cases hj : j < c.length
    · rw [List.getElem?_take_of_lt hj, List.getElem?_drop, hx j hj]
    · rw [List.getElem?_eq_none (by simp; omega), List.getElem?_eq_none (by omega)]

/-! ### equality -/
theorem ek_agg {t : TypeId} (h : ek P t = .agg) : P.stoodInHeld t = false ∧ P.eqGuardType P.depth t = false ∧ ∀ fs, P.underlying t = some (.struct fs) → ∀ f ∈ fs.toList, f.name ≠ "_" := by
  unfold ek at h
  split at h <;> first | cases h | skip
  rename_i fs hu
  split at h
  · rename_i hc
    simp only [Bool.and_eq_true, Bool.not_eq_true', List.all_eq_true, bne_iff_ne, ne_eq] at hc
    refine ⟨hc.1.1, hc.1.2, fun fs' hu' f hf => ?_⟩
    rw [hu] at hu'
    cases hu'
    exact hc.2 f hf
  · cases h
theorem ek_int {t : TypeId} (h : ek P t = .int) : ∃ k, P.underlying t = some (.int k) := by
  unfold ek at h
  split at h <;> first | cases h | skip
  · rename_i k hu; exact ⟨k, hu⟩
  · split at h <;> cases h
theorem ek_ptr {t : TypeId} (h : ek P t = .ptr) : ∃ e, P.underlying t = some (.pointer e) := by
  unfold ek at h
  split at h <;> first | cases h | skip
  · rename_i e hu; exact ⟨e, hu⟩
  · split at h <;> cases h
theorem ek_bool {t : TypeId} (h : ek P t = .bool) : P.underlying t = some .bool := by
  unfold ek at h
  split at h <;> first | cases h | skip
  · rename_i hu; exact hu
  · split at h <;> cases h
theorem ek_str {t : TypeId} (h : ek P t = .str) : P.underlying t = some .string := by
  unfold ek at h
  split at h <;> first | cases h | skip
  · rename_i hu; exact hu
  · split at h <;> cases h
theorem and2_some {x y : Option Bool} {b : Bool} (h : and2 x y = some b) : ∃ p q, x = some p ∧ y = some q ∧ b = (p && q) := by
  unfold and2 at h
  split at h
  · rename_i p q; cases h; exact ⟨p, q, rfl, rfl, rfl⟩
  · cases h
theorem eqFields_sound {n d : Nat} {fs : List Field} {cx cy : List (List Value)} (ih : ∀ (t : TypeId) (x y : D) (b : Bool) (u v : List Value), eqD P n t x y = some b → Fl P S w x u → Fl P S w y v → (Op.equalIn (n + d) t (valOf (.d x) u) (valOf (.d y) v)).run P w = .ok b w)
    (hn : ∀ f ∈ fs, f.name ≠ "_") (ho : offsOk P 0 fs = true) (hx : cx.map List.length = fs.map fun f => szOf P f.type) (hy : cy.map List.length = fs.map fun f => szOf P f.type) :
    ∀ (k : Nat) (xs ys : List D) (b : Bool), eqD.eqDs P n ((fs.drop k).map (·.type)) xs ys = some b → Fl.fls P S w xs (cx.drop k) → Fl.fls P S w ys (cy.drop k) →
      (Op.eqFields (n + d) cx.flatten.toArray cy.flatten.toArray (fs.drop k)).run P w = .ok b w := by
  intro k
  generalize hm : fs.length - k = m
  induction m generalizing k with
  | zero =>
    intro xs ys b h _ _
    have hk : fs.drop k = [] := List.drop_eq_nil_of_le (by omega)
    rw [hk] at h ⊢
    simp only [List.map_nil] at h
    unfold eqD.eqDs at h
    split at h
    · cases h; rfl
    · rename_i heq _ _; cases heq
    · cases h
  | succ m ihm =>
    intro xs ys b h fx fy
    have hlt : k < fs.length := by omega
    have hd : fs.drop k = fs[k] :: fs.drop (k + 1) := List.drop_eq_getElem_cons hlt
    rw [hd] at h ⊢
    simp only [List.map_cons] at h
    unfold eqD.eqDs at h
    split at h
    · rename_i heq; cases heq
    · rename_i e es x xs' y ys' heq
      cases heq
      split at h
      · rename_i hty
        obtain ⟨p, q, h1, h2, rfl⟩ := and2_some h
        have lx : k < cx.length := by have := congrArg List.length hx; simp at this; omega
        have ly : k < cy.length := by have := congrArg List.length hy; simp at this; omega
        rw [List.drop_eq_getElem_cons lx] at fx
        rw [List.drop_eq_getElem_cons ly] at fy
        obtain ⟨u, r, e1, f1, f2⟩ := fx
        cases e1
        obtain ⟨u', r', e2, g1, g2⟩ := fy
        cases e2
        obtain ⟨o1, o2⟩ := offsOk_spec _ _ ho
        have hoff := o2 k _ (List.getElem?_eq_getElem hlt)
        simp only [Nat.zero_add] at hoff
        obtain ⟨a1, a2⟩ := flatten_at (List.getElem?_eq_getElem lx)
        obtain ⟨b1, b2⟩ := flatten_at (List.getElem?_eq_getElem ly)
        rw [hx] at a1 a2
        rw [hy] at b1 b2
        have r1 : (part fs[k].type cx.flatten.toArray fs[k].offset).run P w = .ok (valOf (.d x) cx[k]) w := by
          rw [hoff]; exact run_part (σ := fun _ => none) (st := empty) hty.1 f1 a1 a2
        have r2 : (part fs[k].type cy.flatten.toArray fs[k].offset).run P w = .ok (valOf (.d y) cy[k]) w := by
          rw [hoff]; exact run_part (σ := fun _ => none) (st := empty) hty.2 g1 b1 b2
        have hname : fs[k].name ≠ "_" := hn _ (List.getElem_mem hlt)
        unfold Op.eqFields
        rw [if_pos hname]
        simp only [Sem.run_bind, r1, r2, Result.andThen_ok, ih _ _ _ _ _ _ h1 f1 g1]
        cases p
        · simp
        · simp only [Bool.not_true, Bool.false_eq_true, if_false, Bool.true_and]
          exact ihm (k + 1) (by omega) _ _ _ h2 f2 g2
      · cases h
    · cases h
theorem eqD_sound (d : Nat) : ∀ (n : Nat) (t : TypeId) (x y : D) (b : Bool) (u v : List Value), eqD P n t x y = some b → Fl P S w x u → Fl P S w y v → (Op.equalIn (n + d) t (valOf (.d x) u) (valOf (.d y) v)).run P w = .ok b w
  | 0, _, _, _, _, _, _, h, _, _ => by simp [eqD] at h
  | n + 1, t, x, y, b, u, v, h, hx, hy => by
    have e : n + 1 + d = n + d + 1 := by omega
    rw [e]
    unfold eqD at h
    split at h
    · rename_i k p k' q hk
      split at h
      · rename_i hkk
        subst hkk
        cases h
        obtain ⟨k0, hu⟩ := ek_int hk
        cases hx; cases hy
        exact run_equalIn_int w (n + d) t k k0 p q hu
      · cases h
    · rename_i p q hk
      cases h
      cases hx; cases hy
      exact run_equalIn_bool' w (n + d) t p q (ek_bool hk)
    · rename_i p q hk
      cases h
      cases hx; cases hy
      exact run_equalIn_string w (n + d) t p q (ek_str hk)
    · rename_i t1 xs t2 ys hk
      split at h
      · rename_i ht
        obtain ⟨rfl, ht2⟩ := ht
        subst ht2
        split at h
        · rename_i m htk
          obtain ⟨cx, rfl, hcx, fx⟩ := hx
          obtain ⟨cy, rfl, hcy, fy⟩ := hy
          obtain ⟨s1, _, s3⟩ := ek_agg hk
          obtain ⟨⟨l, hl, hn⟩, ⟨fs, hu, _⟩ | ⟨m', e', hu, hr⟩⟩ := tk_agg htk
          · obtain ⟨rfl, ho, _⟩ := comps_struct hu hl
            rw [hl] at hcx hcy
            have hcx := (Option.some.inj hcx).symm
            have hcy := (Option.some.inj hcy).symm
            have hff : P.fieldsOf t2 = fs := by unfold Program.fieldsOf; rw [hu]
            have hct : compTs P t2 = fs.toList.map (·.type) := by unfold compTs; rw [hu]
            rw [hct] at h
            show (Op.equalIn (n + d + 1) t2 (.agg cx.flatten.toArray) (.agg cy.flatten.toArray)).run P w = .ok b w
            rw [run_equalIn_agg w (n + d) t2 _ _ (by rw [hff]; exact hu) s1, hff]
            have := eqFields_sound (fs := fs.toList) (n := n) (d := d) (cx := cx) (cy := cy) (fun t x y b u v => eqD_sound d n t x y b u v) (s3 fs hu) ho hcx hcy 0 xs ys b h fx fy
            exact this
          · cases hr
        · cases h
      · cases h
    · cases h
theorem bin_sound {op : BinOp} {t : TypeId} {x y : Operand} {xv yv : V} {a b : Value} {v : V} (h : evBin P op t xv yv = some v) (hx : RelV P S σ st w xv a) (hy : RelV P S σ st w yv b) :
    ∃ val, (do eqGuard op t x y a b; binOp op t a b : Sem Value).run P w = .ok val w ∧ RelV P S σ st w v val := by
  unfold evBin at h
  split at h
  · rename_i k p k' q
    have := relV_int hx; subst this
    have := relV_int hy; subst this
    have hg : (eqGuard op t x y (.int k p) (.int k' q)).run P w = .ok () w := by
      unfold eqGuard; cases op <;> simp
    simp only [Sem.run_bind, hg, Result.andThen_ok]
    split at h
    · split at h
      · cases h
      · rename_i hb; cases h
        refine ⟨_, ?_, int_rel _ _⟩
        simp [binOp, Op.shift, hb, shlI]
    · split at h
      · cases h
      · rename_i hb; cases h
        refine ⟨_, ?_, int_rel _ _⟩
        simp [binOp, Op.shift, hb, shrI]
    · rename_i h1 h2
      split at h
      · rename_i hk
        subst hk
        have hne1 : op ≠ .shl := fun e => h1 e
        have hne2 : op ≠ .shr := fun e => h2 e
        cases op <;> first
          | exact absurd rfl hne1
          | exact absurd rfl hne2
          | (simp only [Option.some.injEq] at h; subst h
             first
               | exact ⟨_, by simp [binOp, Op.intArith] <;> rfl, int_rel _ _⟩
               | exact ⟨_, by simp [binOp, Op.intCmp] <;> rfl, bool_rel _⟩
               | exact ⟨_, by simp [binOp, Op.intBits, bitsI] <;> rfl, int_rel _ _⟩)
          | (dsimp only at h
             split at h
             · cases h
             · rename_i hb; cases h
               first
                 | exact ⟨.int k (k.wrap (p.tdiv q)), by simp [binOp, Op.intDiv, hb], int_rel _ _⟩
                 | exact ⟨.int k (p.tmod q), by simp [binOp, Op.intDiv, hb], int_rel _ _⟩)
          | cases h
      · cases h
  · rename_i p q
    have := relV_bool hx; subst this
    have := relV_bool hy; subst this
    have hg : (eqGuard op t x y (.bool p) (.bool q)).run P w = .ok () w := by
      unfold eqGuard; cases op <;> simp
    simp only [Sem.run_bind, hg, Result.andThen_ok]
    have hu : ∀ {v : V} {z : V}, (if P.underlying t matches some .bool then some z else none) = some v → P.underlying t = some .bool ∧ z = v := by
      intro v z h
      split at h
      · rename_i hm
        refine ⟨?_, Option.some.inj h⟩
        cases hq : P.underlying t with
        | none => rw [hq] at hm; simp at hm
        | some d => rw [hq] at hm; cases d <;> simp at hm; rfl
      · cases h
    cases op <;> simp only at h <;> first
      | cases h
      | (obtain ⟨hb, rfl⟩ := hu h
         first
           | exact ⟨_, run_eql_bool (P := P) w t p q hb, bool_rel _⟩
           | exact ⟨_, run_neq_bool (P := P) w t p q hb, bool_rel _⟩)
  · rename_i p q
    have := relV_str hx; subst this
    have := relV_str hy; subst this
    have hg : (eqGuard op t x y (.string p) (.string q)).run P w = .ok () w := by
      unfold eqGuard; cases op <;> simp
    simp only [Sem.run_bind, hg, Result.andThen_ok]
    cases op <;> simp only at h <;> first
      | (cases h; done)
      | (split at h
         · cases h
         · rename_i hn
           cases h
           exact ⟨.string (p ++ q), by simp only [binOp, Op.stringOp, hn, if_false, Sem.run_pure], str_rel _⟩)
      | (simp only [Option.some.injEq] at h; subst h
         exact ⟨_, by simp only [binOp, Op.stringOp, Sem.run_pure], bool_rel _⟩)
  · rename_i t1 xs t2 ys
    obtain ⟨cx, rfl, hcx⟩ : ∃ cs : List Value, a = .agg cs.toArray ∧ Fl P S w (.agg t1 xs) cs := by
      rcases hx with h | ⟨_, cs, h1, h2⟩ | ⟨h, _⟩
      · cases h
      · exact ⟨cs, h1, h2⟩
      · cases h
    obtain ⟨cy, rfl, hcy⟩ : ∃ cs : List Value, b = .agg cs.toArray ∧ Fl P S w (.agg t2 ys) cs := by
      rcases hy with h | ⟨_, cs, h1, h2⟩ | ⟨h, _⟩
      · cases h
      · exact ⟨cs, h1, h2⟩
      · cases h
    have hm : ∀ {q : Bool}, eqD P 20 t (.agg t1 xs) (.agg t2 ys) = some q → (Op.equalIn 10000 t (.agg cx.toArray) (.agg cy.toArray)).run P w = .ok q w ∧ P.eqGuardType P.depth t = false := by
      intro q hq
      have hk : ek P t = .agg := by
        unfold eqD at hq
        cases hk : ek P t <;> rw [hk] at hq <;> first | rfl | (simp only at hq; cases hq)
      exact ⟨eqD_sound 9980 20 t _ _ q _ _ hq hcx hcy, (ek_agg hk).2.1⟩
    cases op <;> simp only at h <;> first
      | cases h
      | (split at h
         · rename_i q hq
           cases h
           obtain ⟨h1, h2⟩ := hm hq
           refine ⟨_, ?_, bool_rel _⟩
           rw [Sem.run_bind, run_eqGuard_agg w _ t x y _ _ h2, Result.andThen_ok]
           first
             | rw [run_eql_struct w t _ _, h1, Result.andThen_ok]
             | rw [run_neq_struct w t _ _, h1, Result.andThen_ok]
         · cases h)
  · cases h

theorem un_sound {op : UnOp} {xv : V} {a : Value} {v : V} (h : evUn op xv = some v) (hx : RelV P S σ st w xv a) : ∃ val, (Op.unary op a).run P w = .ok val w ∧ RelV P S σ st w v val := by
  unfold evUn at h
  split at h
  · rename_i k n
    have := relV_int hx; subst this
    split at h
    · cases h; exact ⟨_, by simp [Op.unary, Op.intArith] <;> rfl, int_rel _ _⟩
    · cases h; exact ⟨_, by simp [Op.unary, Op.intBits, bitsI] <;> rfl, int_rel _ _⟩
    · cases h
  · rename_i b
    have := relV_bool hx; subst this
    split at h
    · cases h; exact ⟨_, by simp [Op.unary] <;> rfl, bool_rel _⟩
    · cases h
  · cases h

theorem intK_spec {t : TypeId} {k : IntKind} (h : intK P t = some k) : P.underlying t = some (.int k) := by
  unfold intK at h
  split at h
  · rename_i k' hu; cases h; exact hu
  · cases h
theorem conv_sound {s t : TypeId} {xv : V} {a : Value} {v : V} (h : evConv P s t xv = some v) (hx : RelV P S σ st w xv a) : ∃ val, (convert s t a).run P w = .ok val w ∧ RelV P S σ st w v val := by
  unfold evConv at h
  split at h
  · rename_i k n
    have := relV_int hx; subst this
    split at h
    · rename_i k1 k2 h1 h2
      cases h
      refine ⟨_, ?_, int_rel _ _⟩
      simp [convert, run_underlying (intK_spec h1), run_underlying (intK_spec h2), Conv.intToInt]
    · cases h
  · cases h

/-! ### lengths, least and greatest -/
theorem relV_rs {er : TypeId} {k : Key} {ver off len : Nat} {full : Bool} {val : Value} (h : RelV P S σ st w (.rs er k ver off len full) val) :
    ∃ A c, val = .slice A len c ∧ len ≤ c ∧ (0 < len → ∃ a, A = some a) ∧ ver ≤ (st k).ver ∧ (ver = (st k).ver → (st k).live = true → (st k).e = er ∧ 0 < szOf P er ∧ (σ k = none → off = 0 ∧ c = 0) ∧ ∀ b cap, σ k = some (b, cap) → (c = 0 ∨ A = some ⟨b, off * szOf P (st k).e, none⟩) ∧ off + c ≤ cap ∧ (full = true → off + c = cap)) := by
  obtain ⟨A, c, h1, h2⟩ := relV_one h rfl (by simp) (by simp)
  simp at h1
  exact ⟨A, c, h1, h2⟩
theorem relV_nils {e : TypeId} {val : Value} (h : RelV P S σ st w (.nils e) val) : val = .slice none 0 0 := by
  have h1 := relV_one h rfl (by simp) (by simp)
  have h2 : [val] = [Value.slice none 0 0] := h1
  simpa using h2
theorem relV_nila {e : TypeId} {val : Value} (h : RelV P S σ st w (.nila e) val) : ∃ A, val = .slice A 0 0 := by
  obtain ⟨A, h1⟩ := relV_one h rfl (by simp) (by simp)
  simp at h1
  exact ⟨A, h1⟩
theorem relV_nilE {e : TypeId} {s : V} {val : Value} (hs : nilE s = some e) (h : RelV P S σ st w s val) : ∃ A, val = .slice A 0 0 := by
  cases s <;> simp [nilE] at hs
  · exact ⟨_, relV_nils h⟩
  · exact relV_nila h
theorem relV_sl {e : TypeId} {ds : List D} {val : Value} (h : RelV P S σ st w (.d (.sl e ds)) val) : ∃ A cap, val = .slice A ds.length cap ∧ (ds = [] ∨ ∃ (b o : Nat) (css : List (List Value)), A = some ⟨b, o, none⟩ ∧ S b ∧ ds.length ≤ cap ∧
      (∀ c ∈ css, c.length = szOf P e) ∧ cellsAt w b o css.flatten ∧ Fl.fls P S w ds css) := by
  obtain ⟨A, cap, h1, h2⟩ := relV_one h rfl (by simp) (by simp)
  simp at h1
  exact ⟨A, cap, h1, h2⟩
theorem equalIn_nil {t e : TypeId} (hu : P.underlying t = some (.slice e)) (d : Nat) (A : Option Addr) (m c' n c : Nat) (w : World) : (Op.equalIn (d + 1) t (.slice A m c') (.slice none n c)).run P w = .ok A.isNone w := by
  cases A <;> simp [Op.equalIn, run_underlying hu]
theorem equal_nil {t e : TypeId} (hu : P.underlying t = some (.slice e)) (A : Option Addr) (m c' n c : Nat) (w : World) : (Op.equal t (.slice A m c') (.slice none n c)).run P w = .ok A.isNone w := equalIn_nil hu 9999 A m c' n c w
theorem equalIn_ptr {t e : TypeId} (hu : P.underlying t = some (.pointer e)) (d : Nat) (A : Option Addr) (w : World) : (Op.equalIn (d + 1) t (.pointer A) (.pointer none)).run P w = .ok A.isNone w := by
  cases A <;> simp [Op.equalIn, run_underlying hu]
theorem binO_sound {env : List V} {a : Act} {op : BinOp} {t : TypeId} {x y : Operand} {v : V} (h : evBinO P (evalT P env) op t x y = some v) (hrel : EnvRel P S σ st w env a.tmps) :
    ∃ val, (do eqGuard op t x y (a.eval x) (a.eval y); binOp op t (a.eval x) (a.eval y) : Sem Value).run P w = .ok val w ∧ RelV P S σ st w v val := by
  unfold evBinO at h
  split at h
  · rename_i hy
    split at h
    · rename_i e hk
      obtain ⟨hu, _⟩ := tk_sl hk
      have hya : ∃ n c, y = .const (.slice none n c) := by
        unfold isNilC at hy
        split at hy
        · exact ⟨_, _, rfl⟩
        · cases hy
      obtain ⟨n, c, rfl⟩ := hya
      have hev : a.eval (.const (.slice none n c)) = .slice none n c := rfl
      have hx := evalT_rel hrel t x
      have hsl : ∃ A m c', a.eval x = .slice A m c' ∧ ((op = .eql ∧ v = .d (.bool A.isNone)) ∨ (op = .neq ∧ v = .d (.bool (!A.isNone)))) := by
        have hsv : ∀ {b : Bool}, (match evalT P env t x with | .d (.sl _ ds) => if 0 < ds.length then some (V.d (.bool b)) else none | .rs _ _ _ _ len _ => if 0 < len then some (V.d (.bool b)) else none | .nils _ => some (V.d (.bool (!b))) | _ => none) = some v → ∃ A m c', a.eval x = .slice A m c' ∧ v = .d (.bool (bif A.isNone then !b else b)) := by
          intro b hm
          split at hm
          · rename_i e' ds hv
            rw [hv] at hx
            split at hm
            · rename_i hl
              cases hm
              obtain ⟨A, c', hA, hds⟩ := relV_sl hx
              rcases hds with rfl | ⟨b', o, css, rfl, _⟩
              · simp at hl
              · exact ⟨_, _, _, hA, rfl⟩
            · cases hm
          · rename_i hv
            rw [hv] at hx
            split at hm
            · rename_i hl
              cases hm
              obtain ⟨A, c', hA, _, hs, _⟩ := relV_rs hx
              obtain ⟨A', rfl⟩ := hs hl
              exact ⟨_, _, _, hA, rfl⟩
            · cases hm
          · rename_i e' hv
            rw [hv] at hx
            cases hm
            exact ⟨_, _, _, relV_nils hx, rfl⟩
          · cases hm
        unfold evNil at h
        split at h
        · obtain ⟨A, m, c', h1, h2⟩ := hsv (b := false) h
          exact ⟨A, m, c', h1, .inl ⟨rfl, by rw [h2]; cases A <;> rfl⟩⟩
        · obtain ⟨A, m, c', h1, h2⟩ := hsv (b := true) h
          exact ⟨A, m, c', h1, .inr ⟨rfl, by rw [h2]; cases A <;> rfl⟩⟩
        · cases h
      obtain ⟨A, m, c', hA, hop⟩ := hsl
      rw [hA, hev]
      rcases hop with ⟨rfl, rfl⟩ | ⟨rfl, rfl⟩
      · refine ⟨.bool A.isNone, ?_, bool_rel _⟩
        simp only [eqGuard, binOp, Sem.run_bind, Sem.run_pure, Result.andThen_ok, equal_nil hu]; rfl
      · refine ⟨.bool (!A.isNone), ?_, bool_rel _⟩
        simp only [eqGuard, binOp, Sem.run_bind, Sem.run_pure, Result.andThen_ok, equal_nil hu]; rfl
    · cases h
  · split at h
    · rename_i hy
      split at h
      · rename_i hk
        obtain ⟨e, hu⟩ := ek_ptr hk
        have hya : y = .const (.pointer none) := by
          unfold isNilP at hy
          split at hy
          · rfl
          · cases hy
        subst hya
        have hev : a.eval (.const (.pointer none)) = .pointer none := rfl
        have hx := evalT_rel hrel t x
        have hpt : (a.eval x = .pointer none ∧ ((op = .eql ∧ v = .d (.bool true)) ∨ (op = .neq ∧ v = .d (.bool false)))) ∨ ∃ A, a.eval x = .pointer (some A) ∧ ((op = .eql ∧ v = .d (.bool false)) ∨ (op = .neq ∧ v = .d (.bool true))) := by
          unfold evNilP at h
          split at h
          · rename_i hv
            rw [hv] at hx
            have := relV_one hx rfl (by simp) (by simp)
            have e1 : [a.eval x] = [Value.pointer none] := this
            refine .inl ⟨by simpa using e1, ?_⟩
            split at h <;> first | (cases h; exact .inl ⟨rfl, rfl⟩) | (cases h; exact .inr ⟨rfl, rfl⟩) | cases h
          · rename_i y hv
            rw [hv] at hx
            obtain ⟨b, o, xs, h1, _⟩ := relV_one hx rfl (by simp) (by simp)
            refine .inr ⟨_, by simpa using h1, ?_⟩
            split at h <;> first | (cases h; exact .inl ⟨rfl, rfl⟩) | (cases h; exact .inr ⟨rfl, rfl⟩) | cases h
          · rename_i k ver i path hv
            rw [hv] at hx
            obtain ⟨A, h1, _⟩ := relV_one hx rfl (by simp) (by simp)
            refine .inr ⟨A, by simpa using h1, ?_⟩
            split at h <;> first | (cases h; exact .inl ⟨rfl, rfl⟩) | (cases h; exact .inr ⟨rfl, rfl⟩) | cases h
          · cases h
        have eq1 : ∀ (A : Option Addr) (w : World), (Op.equal t (.pointer A) (.pointer none)).run P w = .ok A.isNone w := fun A w => equalIn_ptr hu 9999 A w
        rw [hev]
        rcases hpt with ⟨hA, hop⟩ | ⟨A, hA, hop⟩ <;> rw [hA] <;> rcases hop with ⟨rfl, rfl⟩ | ⟨rfl, rfl⟩
        · exact ⟨.bool true, by simp [eqGuard, binOp, eq1], bool_rel _⟩
        · exact ⟨.bool false, by simp [eqGuard, binOp, eq1], bool_rel _⟩
        · exact ⟨.bool false, by simp [eqGuard, binOp, eq1], bool_rel _⟩
        · exact ⟨.bool true, by simp [eqGuard, binOp, eq1], bool_rel _⟩
      · cases h
    · exact bin_sound h (evalT_rel hrel _ _) (evalT_rel hrel _ _)
end
end Go.Ev
end
section
set_option linter.unusedVariables false
set_option linter.unusedSimpArgs false
set_option linter.unusedSectionVars false
namespace Go.Ev
open Go.RowKit

section
variable {P : Program} {S : Nat → Prop} {σ : Sig} {st : Store} {w : World}

theorem szOf_pos_info {t : TypeId} (h : 0 < szOf P t) : ∃ i, P.info? t = some i := by
  unfold szOf Program.cellsOf at h
  cases hi : P.info? t with
  | none => rw [hi] at h; simp at h
  | some i => exact ⟨i, rfl⟩
theorem run_sizeOf_pos {t : TypeId} (h : 0 < szOf P t) (w : World) : (sizeOf t).run P w = .ok (szOf P t) w := by
  obtain ⟨i, hi⟩ := szOf_pos_info h
  simp [sizeOf, typeInfo, hi, szOf_info hi]
theorem pathOff_append {path : List (TypeId × Nat)} {t : TypeId} {f off : Nat} {l : List Nat} (h : pathOff P path = some off) (hc : comps P t = some l) (hf : f < l.length) :
    pathOff P (path ++ [(t, f)]) = some (off + (l.take f).sum) := by
  induction path generalizing off with
  | nil => simp [pathOff] at h; subst h; simp [pathOff, hc, hf]
  | cons x r ih =>
    obtain ⟨t', i⟩ := x
    simp only [pathOff] at h
    cases hq : comps P t' with
    | none => rw [hq] at h; simp at h
    | some l' =>
      cases hr : pathOff P r with
      | none => rw [hq, hr] at h; simp at h
      | some n =>
        rw [hq, hr] at h
        simp only at h
        split at h
        · rename_i hlt
          cases h
          have := ih hr
          simp only [List.cons_append, pathOff, hq, this, if_pos hlt]
          congr 1; omega
        · cases h

/-- A field's address. -/
theorem run_fieldAt {t : TypeId} {f n : Nat} {A : Addr} (h : tk P t = .agg n false) (hf : f < n) (w : World) : ∃ (l : List Nat), comps P t = some l ∧ l.length = n ∧
    (Instr.fieldAt t (.pointer (some A)) f).run P w = .ok (.pointer (some (A.add (l.take f).sum))) w := by
  obtain ⟨⟨l, hl, hn⟩, ⟨fs, hu, _⟩ | ⟨m, e, hu, hr⟩⟩ := tk_agg h
  · obtain ⟨rfl, ho, hs, _⟩ := comps_struct hu hl
    obtain ⟨h1, h2⟩ := offsOk_spec _ _ ho
    have hlt : f < fs.toList.length := by simp at hn; simp; omega
    have hfs : fs.toList[f]? = some fs.toList[f] := List.getElem?_eq_getElem hlt
    have hfa : fs[f]? = some fs.toList[f] := by rw [← Array.getElem?_toList]; exact hfs
    have hoff := h2 f _ hfs
    have hpos := h1 _ (List.mem_of_getElem? hfs)
    refine ⟨_, hl, hn, ?_⟩
    simp only [Nat.zero_add] at hoff
    have hne : szOf P fs.toList[f].type ≠ 0 := by omega
    unfold Instr.fieldAt
    simp only [Sem.run_bind, run_underlying hu, Result.andThen_ok, hfa, Instr.sureAddr, Sem.run_pure, fieldPlace, run_sizeOf_pos hpos, hne, if_false]
    rw [← hoff]
  · cases hr

/-- A component of an aggregate. -/
theorem agg_at {t : TypeId} {f : Nat} {y : V} {css : List (List Value)} {c : List Value} {vs : List V} (hc : css[f]? = some c) (hy : RelC P S σ st w y c) :
    ((css.map List.length).take f).sum + c.length ≤ css.flatten.length ∧ ∀ j, j < c.length → css.flatten[((css.map List.length).take f).sum + j]? = c[j]? := flatten_at hc
theorem field_sound {t e : TypeId} {f n : Nat} {y : V} {css : List (List Value)} {c : List Value} (hk : tk P t = .agg n false) (he : compT P t f = some e) (ht : hasT P e y = true)
    (hcomp : comps P t = some (css.map List.length)) (hc : css[f]? = some c) (hy : RelC P S σ st w y c) : (Instr.field t (.agg css.flatten.toArray) f).run P w = .ok (valOf y c) w := by
  obtain ⟨⟨l, hl, hn⟩, ⟨fs, hu, _⟩ | ⟨m, e', hu, hr⟩⟩ := tk_agg hk
  · obtain ⟨rfl, ho, hs, _⟩ := comps_struct hu hl
    obtain ⟨h1, h2⟩ := offsOk_spec _ _ ho
    have hcl : f < css.length := (List.getElem?_eq_some_iff.1 hc).1
    rw [hl] at hcomp
    have hcomp := Option.some.inj hcomp
    have hlt : f < fs.toList.length := by
      have := congrArg List.length hcomp
      simp at this; simp; omega
    have hfs : fs.toList[f]? = some fs.toList[f] := List.getElem?_eq_getElem hlt
    have hfa : fs[f]? = some fs.toList[f] := by rw [← Array.getElem?_toList]; exact hfs
    have hoff := h2 f _ hfs
    simp only [Nat.zero_add] at hoff
    have hte : fs.toList[f].type = e := by
      unfold compT compTs at he
      rw [hu, nth_eq] at he
      simp only [List.getElem?_map, hfs, Option.map_some, Option.some.injEq] at he
      exact he
    obtain ⟨g1, g2⟩ := flatten_at hc
    unfold Instr.field
    simp only [Sem.run_bind, run_underlying hu, Result.andThen_ok, hfa, asAgg, Sem.run_pure]
    rw [hte, hoff, hcomp]
    exact run_part ht hy g1 g2
  · cases hr

/-! ### slices -/
theorem optI_rel {env : List V} {a : Act} (h : EnvRel P S σ st w env a.tmps) {o : Option Operand} {r : Option Int} (ho : optI (o.map (evalT P env 0)) = some r) :
    (o.map a.eval = none ∧ r = none) ∨ ∃ k n, o.map a.eval = some (.int k n) ∧ r = some n := by
  cases o with
  | none => simp [optI] at ho; exact .inl ⟨rfl, ho.symm⟩
  | some x =>
    simp only [Option.map_some] at ho
    have hr := evalT_rel h 0 x
    unfold optI at ho
    split at ho
    · rename_i hq; cases hq
    · rename_i k n hq
      cases ho
      rw [Option.some.inj hq] at hr
      exact .inr ⟨k, n, by simp [relV_int hr], rfl⟩
    · cases ho

/-- The model's slicing, by whole numbers. -/
theorem run_slice_ints {t e : TypeId} (hu : P.underlying t = some (.slice e)) (hpos : 0 < szOf P e) (A : Option Addr) (len cap : Nat) (lo hi mx : Option Value) (l h m : Option Int)
    (hl : (lo = none ∧ l = none) ∨ ∃ k n, lo = some (.int k n) ∧ l = some n) (hh : (hi = none ∧ h = none) ∨ ∃ k n, hi = some (.int k n) ∧ h = some n) (hm : (mx = none ∧ m = none) ∨ ∃ k n, mx = some (.int k n) ∧ m = some n)
    (h1 : 0 ≤ l.getD 0) (h2 : l.getD 0 ≤ h.getD len) (h3 : h.getD len ≤ cap) (h4 : ∀ q, m = some q → h.isSome = true ∧ h.getD len ≤ q ∧ q ≤ cap) (w : World) :
    (Instr.sliceAt t (.slice A len cap) lo hi mx).run P w = .ok (sliced A (l.getD 0).toNat (h.getD len).toNat ((m.getD cap).toNat) (szOf P e)) w := by
  have hb : ∀ (i : Int) (y : Nat) (k : IntKind) (code : BoundsCode), 0 ≤ i → i ≤ y → (Instr.sliceBound (.int k i) y code).run P w = .ok i.toNat w := fun i y k code g1 g2 => run_sliceBound (P := P) w k i y code g1 g2
  have hsz := run_sizeOf_pos hpos w
  have e2 : ∀ (h : Int), 0 ≤ h → (h.toNat : Int) = h := fun h g => Int.toNat_of_nonneg g
  unfold Instr.sliceAt Instr.slice Instr.sliceBounds
  rcases hm with ⟨rfl, rfl⟩ | ⟨km, m, rfl, rfl⟩
  · rcases hh with ⟨rfl, rfl⟩ | ⟨kh, h, rfl, rfl⟩ <;> rcases hl with ⟨rfl, rfl⟩ | ⟨kl, l, rfl, rfl⟩ <;> simp only [Option.getD_none, Option.getD_some] at h1 h2 h3 ⊢
    · simp [run_underlying hu, hsz, sliced]
    · simp [run_underlying hu, hsz, sliced, hb l len kl _ h1 h2]
    · simp [run_underlying hu, hsz, sliced, hb h cap kh _ h2 h3]
    · have g : 0 ≤ h := by omega
      simp [run_underlying hu, hsz, sliced, hb h cap kh _ g h3, hb l h.toNat kl _ h1 (by rw [e2 h g]; exact h2)]
  · obtain ⟨hs, g1, g2⟩ := h4 m rfl
    rcases hh with ⟨rfl, rfl⟩ | ⟨kh, h, rfl, rfl⟩
    · simp at hs
    · simp only [Option.getD_some] at h2 h3 g1
      rcases hl with ⟨rfl, rfl⟩ | ⟨kl, l, rfl, rfl⟩ <;> simp only [Option.getD_none, Option.getD_some] at h1 h2 ⊢
      · have gm : 0 ≤ m := by omega
        simp [run_underlying hu, hsz, sliced, hb m cap km _ gm g2, hb h m.toNat kh _ h2 (by rw [e2 m gm]; exact g1)]
      · have g : 0 ≤ h := by omega
        have gm : 0 ≤ m := by omega
        simp [run_underlying hu, hsz, sliced, hb m cap km _ gm g2, hb h m.toNat kh _ g (by rw [e2 m gm]; exact g1), hb l h.toNat kl _ h1 (by rw [e2 h g]; exact h2)]
theorem drop_take_cells {w : World} {b o s l h : Nat} {css : List (List Value)} (hat : cellsAt w b o css.flatten) (hs : ∀ c ∈ css, c.length = s) (hl : l ≤ h) (hh : h ≤ css.length) :
    cellsAt w b (o + l * s) ((css.take h).drop l).flatten := by
  have e1 : css = css.take l ++ ((css.take h).drop l ++ css.drop h) := by
    have h1 : css.take l = (css.take h).take l := by rw [List.take_take, Nat.min_eq_left hl]
    rw [← List.append_assoc, h1, List.take_append_drop, List.take_append_drop]
  have e2 : (css.take l).flatten.length = l * s := by
    rw [length_flatten_eq (fun c hc => hs c (List.mem_of_mem_take hc)), List.length_take, Nat.min_eq_left (by omega)]
  have e3 : css.flatten = (css.take l).flatten ++ (((css.take h).drop l).flatten ++ (css.drop h).flatten) := by
    conv => lhs; rw [e1]
    simp only [List.flatten_append]
  refine hat.part ?_ ?_
  · rw [e3]; simp only [List.length_append, e2]; omega
  · intro j hj
    rw [e3, List.getElem?_append_right (by omega), e2, show l * s + j - l * s = j by omega, List.getElem?_append_left hj]

theorem slice_sound {t e : TypeId} {x v : V} {val : Value} {lo hi mx : Option Value} {l h m : Option Int} (hk : tk P t = .sl e) (hv : evSlice x l h m = some v) (hx : RelV P S σ st w x val)
    (he : ∀ e' ds, x = .d (.sl e' ds) → e' = e) (he2 : ∀ er k ver off len full, x = .rs er k ver off len full → er = e)
    (hl : (lo = none ∧ l = none) ∨ ∃ k n, lo = some (.int k n) ∧ l = some n) (hh : (hi = none ∧ h = none) ∨ ∃ k n, hi = some (.int k n) ∧ h = some n) (hm : (mx = none ∧ m = none) ∨ ∃ k n, mx = some (.int k n) ∧ m = some n)
    (hmh : m.isSome = true → h.isSome = true) :
    ∃ r, (Instr.sliceAt t val lo hi mx).run P w = .ok r w ∧ RelV P S σ st w v r := by
  obtain ⟨hu, _, hpos, _⟩ := tk_sl hk
  unfold evSlice at hv
  split at hv
  · rename_i e' ds
    have := he _ _ rfl; subst this
    obtain ⟨A, cap, rfl, hds⟩ := relV_sl hx
    have hcap : ds.length ≤ cap ∨ ds = [] := by rcases hds with h | ⟨b, o, css, _, _, h, _⟩ <;> simp [*]
    have hcap' : ds.length ≤ cap := by rcases hcap with h | h; · exact h
                                       · simp [h]
    simp only at hv
    split at hv
    · rename_i hc
      obtain ⟨c1, c2, c3⟩ := hc
      -- the elements shown
      have shown : ∀ cap' : Nat, (h.getD ds.length).toNat ≤ cap' → RelV P S σ st w (.d (.sl e' ((ds.take (h.getD ds.length).toNat).drop (l.getD 0).toNat))) (sliced A (l.getD 0).toNat (h.getD ds.length).toNat cap' (szOf P e')) := by
        intro cap' hle
        generalize hH : (h.getD ds.length).toNat = H at *
        generalize hL : (l.getD 0).toNat = L at *
        have hLH : L ≤ H := by omega
        have hHd : H ≤ ds.length := by omega
        have hlen : ((ds.take H).drop L).length = H - L := by simp; omega
        refine RelC.to_v ?_ rfl
        refine ⟨if cap' = L then A else A.map (·.add (L * szOf P e')), cap' - L, by rw [hlen]; rfl, ?_⟩
        by_cases hem : (ds.take H).drop L = []
        · exact .inl hem
        · refine .inr ?_
          have hLt : L < H := by
            rcases Nat.lt_or_ge L H with h | h
            · exact h
            · exact absurd (List.eq_nil_of_length_eq_zero (by rw [hlen]; omega)) hem
          rcases hds with hds | ⟨b, o, css, rfl, hb, hcc, hcs, hat, hf⟩
          · subst hds; simp at hHd; omega
          · have hcl := fls_length hf
            refine ⟨b, o + L * szOf P e', (css.take H).drop L, ?_, hb, by rw [hlen]; omega, fun c hc => hcs c (List.mem_of_mem_take (List.mem_of_mem_drop hc)), drop_take_cells hat hcs (by omega) (by omega), fls_drop _ (fls_take _ hf)⟩
            rw [if_neg (by omega)]
            simp only [Option.map_some, add_none]
      split at hv
      · cases hv
        rcases hm with ⟨rfl, _⟩ | ⟨_, _, _, hm⟩
        · exact ⟨_, run_slice_ints hu hpos A ds.length cap lo hi none l h none hl hh (.inl ⟨rfl, rfl⟩) c1 c2 (by omega) (by simp) w, by simpa using shown cap (by omega)⟩
        · cases hm
      · rename_i q
        split at hv
        · rename_i hq
          have hrun := run_slice_ints hu hpos A ds.length cap lo hi mx l h (some q) hl hh hm c1 c2 (by omega) (fun q' hq' => by cases hq'; exact ⟨hmh rfl, hq.1, by omega⟩) w
          refine ⟨_, hrun, ?_⟩
          simp only [Option.getD_some] at hrun ⊢
          split at hv
          · rename_i hq0
            cases hv
            subst hq0
            have h0 : (h.getD ds.length).toNat = 0 := by omega
            have l0 : (l.getD 0).toNat = 0 := by omega
            rw [h0, l0]
            exact RelC.to_v ⟨A, by simp [sliced]⟩ rfl
          · cases hv
            exact shown q.toNat (by omega)
        · cases hv
    · cases hv
  · rename_i er k ver off len full
    have he' := he2 _ _ _ _ _ _ rfl
    obtain ⟨A, c, rfl, hlc, hA, hver, hfr⟩ := relV_rs hx
    simp only at hv
    split at hv
    · rename_i hc
      obtain ⟨c1, c2, c3⟩ := hc
      have shown : ∀ (cap' : Nat) (f' : Bool), (h.getD len).toNat ≤ cap' → cap' ≤ c → (f' = true → full = true ∧ cap' = c) → RelV P S σ st w (.rs er k ver (off + (l.getD 0).toNat) ((h.getD len).toNat - (l.getD 0).toNat) f') (sliced A (l.getD 0).toNat (h.getD len).toNat cap' (szOf P e)) := by
        intro cap' f' hle hcc hf'
        generalize hH : (h.getD len).toNat = H at *
        generalize hL : (l.getD 0).toNat = L at *
        have hLH : L ≤ H := by omega
        refine RelC.to_v ?_ rfl
        refine ⟨if cap' = L then A else A.map (·.add (L * szOf P e)), cap' - L, rfl, by omega, ?_, hver, ?_⟩
        · intro hpos'
          obtain ⟨a, ha⟩ := hA (by omega)
          subst ha
          split <;> exact ⟨_, rfl⟩
        · intro hv1 hv2
          obtain ⟨g0, gp, g1, g2⟩ := hfr hv1 hv2
          have hee := g0.trans he'
          refine ⟨g0, gp, fun hn => ?_, fun b cap hs => ?_⟩
          · obtain ⟨rfl, rfl⟩ := g1 hn
            exact ⟨by omega, by omega⟩
          · obtain ⟨q1, q2, q3⟩ := g2 b cap hs
            refine ⟨?_, by omega, fun hf => ?_⟩
            · by_cases hcl : cap' = L
              · exact .inl (by omega)
              · rcases q1 with q1 | rfl
                · exact .inl (by omega)
                · right
                  rw [if_neg hcl]
                  simp only [Option.map_some, add_none, hee]
                  congr 2
                  rw [Nat.add_mul]
            · obtain ⟨f1, f2⟩ := hf' hf
              have := q3 f1
              omega
      split at hv
      · cases hv
        rcases hm with ⟨rfl, _⟩ | ⟨_, _, _, hm⟩
        · exact ⟨_, run_slice_ints hu hpos A len c lo hi none l h none hl hh (.inl ⟨rfl, rfl⟩) c1 c2 (by omega) (by simp) w, by simpa using shown c full (by omega) (Nat.le_refl _) (fun h => ⟨h, rfl⟩)⟩
        · cases hm
      · rename_i q
        split at hv
        · rename_i hq
          cases hv
          exact ⟨_, run_slice_ints hu hpos A len c lo hi mx l h (some q) hl hh hm c1 c2 (by omega) (fun q' hq' => by cases hq'; exact ⟨hmh rfl, hq.1, by omega⟩) w, by simpa using shown q.toNat false (by omega) (by omega) (by simp)⟩
        · cases hv
    · cases hv
  · have hxv := relV_nils hx
    subst hxv
    split at hv
    · rename_i hc
      cases hv
      obtain ⟨c1, c2, c3⟩ := hc
      rcases hm with ⟨rfl, _⟩ | ⟨_, _, _, hm⟩
      · refine ⟨_, run_slice_ints hu hpos none 0 0 lo hi none l h none hl hh (.inl ⟨rfl, rfl⟩) (by omega) (by simp only [Int.natCast_zero]; omega) (by simp only [Int.natCast_zero]; omega) (by simp) w, RelC.to_v ?_ rfl⟩
        have e2 : h.getD ((0 : Nat) : Int) = 0 := c2
        rw [c1, e2]
        simp only [sliced]
        exact rfl
      · rw [hm] at c3; cases c3
    · cases hv
  · cases hv
end
end Go.Ev
end
