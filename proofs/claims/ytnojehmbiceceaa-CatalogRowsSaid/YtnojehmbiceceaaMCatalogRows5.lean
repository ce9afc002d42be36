/- Parts of one proof, joined: EvN, EvO, EvP. -/
import Derived.Test.YtnojehmbiceceaaMCatalogRows4
section
set_option linter.unusedVariables false
set_option linter.unusedSimpArgs false
set_option linter.unusedSectionVars false
namespace Go.Ev
open Go.RowKit

/-- A call of function f comes to R. -/
def CallIn (P : Program) (f : FuncId) (args : Array Value) (w : World) (R : Value → World → Prop) : Prop :=
  (∃ fn, P.funcs[f]? = some fn ∧ (fn.name == "runtime.NumGoroutine") = false ∧ fn.body.isNone = false ∧ Calls P f args w (fun e w' => ∃ v, e = .returned v ∧ R v w')) ∨
  ∃ v w', (callFunc f args).run P w = .ok (.value v) w' ∧ R v w'

def ArgsOk (P : Program) (S : Nat → Prop) (w : World) (xs : List D) (vals : List Value) : Prop := ∀ σ st, RelNs P S σ st w (xs.map V.d) vals
def ResOk (P : Program) (S : Nat → Prop) (w : World) (rs : List D) (val : Value) : Prop := ∀ σ st, RelV P S σ st w (retV (rs.map V.d)) val
/-- What was there, and what is new. -/
def Plus (S : Nat → Prop) (w w' : World) : Nat → Prop := fun b => S b ∨ (w.heap.size ≤ b ∧ b < w'.heap.size)
/-- The contract of a function on plain data. -/
def SpecOk (P : Program) (f : FuncId) (s : Spec) : Prop :=
  ∀ (xs rs : List D) (S : Nat → Prop) (w : World) (vals : List Value), s.run xs = some rs → (∀ b, S b → b < w.heap.size) → ArgsOk P S w xs vals →
    CallIn P f vals.toArray w fun val w' => Below w.heap.size w w' ∧ ResOk P (Plus S w w') w' rs val
/-- The contract of what is entered. -/
def CallerOk (P : Program) (call : Caller) : Prop :=
  ∀ (f : FuncId) (xs : List V) (lv : Nat) (st : Store) (v : V) (st' : Store), call f xs lv st = some (v, st') → ∀ (B0 : Nat) (S : Nat → Prop) (σ : Sig) (w : World) (vals : List Value), Inv P B0 S σ st w → RelNs P S σ st w xs vals →
    CallIn P f vals.toArray w fun val w' => ∃ S' σ', Inv P B0 S' σ' st' w' ∧ Evo B0 S σ st w S' σ' st' w' ∧ Below B0 w w' ∧ RelV P S' σ' st' w' v val

section
variable {P : Program} {B0 : Nat} {S : Nat → Prop} {σ : Sig} {st : Store} {w : World}

theorem CallIn.mono {f : FuncId} {args : Array Value} {R R' : Value → World → Prop} (h : CallIn P f args w R) (hr : ∀ v w', R v w' → R' v w') : CallIn P f args w R' := by
  rcases h with ⟨fn, h1, h2, h3, h4⟩ | ⟨v, w', h1, h2⟩
  · exact .inl ⟨fn, h1, h2, h3, h4.mono fun e w' ⟨v, he, hv⟩ => ⟨v, he, hr v w' hv⟩⟩
  · exact .inr ⟨v, w', h1, hr v w' h2⟩

theorem wp_of_callIn {o : Oper} {a : Act} {f : FuncId} {args : Array Value} {R : Value → World → Prop} {K : Act → World → Prop} {Q : Exit → Act → World → Prop} (h : CallIn P f args w R)
    (hex : (execOp a.eval o).run P w = (callFunc f args).run P w) (hk : ∀ v w', R v w' → K (a.put o.dst v) w') : o.wp P a w K Q := by
  unfold Oper.wp
  rw [hex]
  rcases h with ⟨fn, h1, h2, h3, h4⟩ | ⟨v, w', h1, h2⟩
  · have : (callFunc f args).run P w = .ok (.enter f args) w := by
      unfold callFunc
      simp only [Sem.run_bind, run_program, Result.andThen_ok, h1, h2, h3, Bool.false_eq_true, if_false, Sem.run_pure]
    rw [this, Oper.upon_enter]
    refine h4.mono fun e w' ⟨v, he, hv⟩ => ?_
    subst he
    exact hk v w' hv
  · rw [h1, Oper.upon_value]
    exact hk v w' h2

/-! ### values as data -/
mutual
theorem toD_rel : ∀ (v : V) (x : D) (cs : List Value), V.toD v = some x → RelC P S σ st w v cs → Fl P S w x cs
  | .d y, x, cs, h, hr => by simp [V.toD] at h; subst h; exact hr
  | .agg t vs, x, cs, h, hr => by
    simp only [V.toD, Option.map_eq_some_iff] at h
    obtain ⟨ds, h1, rfl⟩ := h
    obtain ⟨css, g1, g2, g3⟩ := hr
    exact ⟨css, g1, g2, toDs_rel vs ds css h1 g3⟩
  | .p .., _, _, h, _ | .mp .., _, _, h, _ | .rs .., _, _, h, _ | .nils _, _, _, h, _ | .nila _, _, _, h, _ | .nilm, _, _, h, _ | .fn .., _, _, h, _ | .tup _, _, _, h, _ | .und, _, _, h, _ | .jk, _, _, h, _ => by simp [V.toD] at h
theorem toDs_rel : ∀ (vs : List V) (ds : List D) (css : List (List Value)), V.toD.V.toDs vs = some ds → RelC.rels P S σ st w vs css → Fl.fls P S w ds css
  | [], ds, css, h, hr => by simp [V.toD.V.toDs] at h; subst h; exact hr
  | v :: vs, ds, css, h, hr => by
    simp only [V.toD.V.toDs] at h
    split at h
    · rename_i x xs h1 h2
      cases h
      obtain ⟨c, r, rfl, g2, g3⟩ := hr
      exact ⟨c, r, rfl, toD_rel v x c h1 g2, toDs_rel vs xs r h2 g3⟩
    · cases h
end
theorem fls_flat {S' : Nat → Prop} {w' : World} (hS : ∀ b, S b → S' b) (hw : ∀ b, S b → w'.heap[b]? = w.heap[b]?) {ds : List D} {css : List (List Value)} (h : Fl.fls P S w ds css) : Fl.fls P S' w' ds css := Fl.monos hS hw ds css h

/-- All memory that there is. -/
def Old (w : World) : Nat → Prop := fun b => b < w.heap.size
theorem fl_old (hI : Inv P B0 S σ st w) {x : D} {cs : List Value} (h : Fl P S w x cs) : Fl P (Old w) w x cs := Fl.mono hI.safe (fun _ _ => rfl) x cs h
mutual
theorem view_rel (hI : Inv P B0 S σ st w) : ∀ (v : V) (x : D) (cs : List Value), V.view st v = some x → RelC P S σ st w v cs → Fl P (Old w) w x cs
  | .d y, x, cs, h, hr => by simp [V.view] at h; subst h; exact fl_old hI hr
  | .agg t vs, x, cs, h, hr => by
    simp only [V.view, Option.map_eq_some_iff] at h
    obtain ⟨ds, h1, rfl⟩ := h
    obtain ⟨css, g1, g2, g3⟩ := hr
    exact ⟨css, g1, g2, views_rel hI vs ds css h1 g3⟩
  | .nils e, x, cs, h, hr => by
    simp [V.view] at h; subst h
    exact ⟨_, 0, hr, .inl rfl⟩
  | .nila e, x, cs, h, hr => by
    simp [V.view] at h; subst h
    obtain ⟨A, rfl⟩ := hr
    exact ⟨A, 0, rfl, .inl rfl⟩
  | .rs er k ver off len full, x, cs, h, hr => by
    simp only [V.view] at h
    split at h
    · rename_i e vs he
      simp only [Option.map_eq_some_iff] at h
      obtain ⟨ds, h1, rfl⟩ := h
      obtain ⟨A, c, rfl, hc⟩ := hr
      have hx : RelV P S σ st w (.rs er k ver off len full) (.slice A len c) := RelC.to_v ⟨A, c, rfl, hc⟩ rfl
      obtain ⟨A', c', css, q1, q2, q3, q4⟩ := elems_ok he hI hx
      have hl := rels_length q2
      simp only [Value.slice.injEq] at q1
      obtain ⟨rfl, hlen, rfl⟩ := q1
      have hf := toDs_rel vs ds css h1 q2
      have hdl := fls_length hf
      refine ⟨A, c, by rw [hlen, ← hl, hdl], ?_⟩
      rcases q4 with q4 | ⟨a, rfl, hcell⟩
      · left
        exact List.eq_nil_of_length_eq_zero (by rw [← hdl, hl, q4]; rfl)
      · by_cases hd : ds = []
        · exact .inl hd
        · right
          -- where the elements lie
          have hlc := hc.1
          have hdpos : 0 < ds.length := List.length_pos_iff.2 hd
          obtain ⟨hv1, hv2, hle⟩ : (st k).ver = ver ∧ (st k).live = true ∧ off + len ≤ (st k).vs.length := by
            simp only [elemsOf] at he
            split at he
            · assumption
            · cases he
          obtain ⟨g0, gp, g1, g2⟩ := hc.2.2.2 hv1.symm hv2
          obtain ⟨hn, hsm⟩ := (hI.own k hv2).row (by rw [g0]; exact gp)
          cases hσ : σ k with
          | none => have := (g1 hσ).2; omega
          | some bc =>
            obtain ⟨b, cap⟩ := bc
            obtain ⟨p1, p2, p3⟩ := g2 b cap hσ
            obtain ⟨f1, f2, f3, cur, cssk, f4, f5, f6, f7, f8, f9, f10⟩ := hsm b cap hσ
            rcases p1 with p1 | p1
            · omega
            · cases p1
              refine ⟨b, off * szOf P (st k).e, css, rfl, f2, by omega, q3, ?_, Fl.monos hI.safe (fun _ _ => rfl) _ _ hf⟩
              refine ⟨cur, (st k).e, (0, 0), f4, fun j hj => ?_⟩
              have := hcell j _ (List.getElem?_eq_getElem hj)
              rw [add_none, cell_of_row w b _ cur _ _ f4] at this
              rw [this, List.getElem?_eq_getElem hj]
    · cases h
  | .p .., _, _, h, _ | .mp .., _, _, h, _ | .nilm, _, _, h, _ | .fn .., _, _, h, _ | .tup _, _, _, h, _ | .und, _, _, h, _ | .jk, _, _, h, _ => by simp [V.view] at h
theorem views_rel (hI : Inv P B0 S σ st w) : ∀ (vs : List V) (ds : List D) (css : List (List Value)), V.view.views st vs = some ds → RelC.rels P S σ st w vs css → Fl.fls P (Old w) w ds css
  | [], ds, css, h, hr => by simp [V.view.views] at h; subst h; exact hr
  | v :: vs, ds, css, h, hr => by
    simp only [V.view.views] at h
    split at h
    · rename_i x xs h1 h2
      cases h
      obtain ⟨c, r, rfl, g2, g3⟩ := hr
      exact ⟨c, r, rfl, view_rel hI v x c h1 g2, views_rel hI vs xs r h2 g3⟩
    · cases h
end
mutual
theorem pure_rel : ∀ (v : V) (x : D) (cs : List Value), V.pure v = true → V.view st v = some x → RelC P S σ st w v cs → Fl P S w x cs
  | .d y, x, cs, _, h, hr => by simp [V.view] at h; subst h; exact hr
  | .agg t vs, x, cs, hp, h, hr => by
    simp only [V.view, Option.map_eq_some_iff] at h
    obtain ⟨ds, h1, rfl⟩ := h
    obtain ⟨css, g1, g2, g3⟩ := hr
    exact ⟨css, g1, g2, pures_rel vs ds css (by simpa [V.pure] using hp) h1 g3⟩
  | .nils e, x, cs, _, h, hr => by
    simp [V.view] at h; subst h
    exact ⟨_, 0, hr, .inl rfl⟩
  | .nila e, x, cs, _, h, hr => by
    simp [V.view] at h; subst h
    obtain ⟨A, rfl⟩ := hr
    exact ⟨A, 0, rfl, .inl rfl⟩
  | .rs .., _, _, h, _, _ | .nilm, _, _, h, _, _ | .mp .., _, _, h, _, _ | .p .., _, _, h, _, _ | .fn .., _, _, h, _, _ | .tup _, _, _, h, _, _ | .und, _, _, h, _, _ | .jk, _, _, h, _, _ => by simp [V.pure] at h
theorem pures_rel : ∀ (vs : List V) (ds : List D) (css : List (List Value)), V.pure.pures vs = true → V.view.views st vs = some ds → RelC.rels P S σ st w vs css → Fl.fls P S w ds css
  | [], ds, css, _, h, hr => by simp [V.view.views] at h; subst h; exact hr
  | v :: vs, ds, css, hp, h, hr => by
    simp only [V.pure.pures, Bool.and_eq_true] at hp
    simp only [V.view.views] at h
    split at h
    · rename_i x xs h1 h2
      cases h
      obtain ⟨c, r, rfl, g2, g3⟩ := hr
      exact ⟨c, r, rfl, pure_rel v x c hp.1 h1 g2, pures_rel vs xs r hp.2 h2 g3⟩
    · cases h
end
/-- What a value's data is: an aggregate if the value is. -/
theorem view_agg {v : V} {x : D} (h : V.view st v = some x) : (V.d x).isAgg = v.isAgg := by
  cases v with
  | d y => simp [V.view] at h; subst h; rfl
  | agg t vs =>
    simp only [V.view, Option.map_eq_some_iff] at h
    obtain ⟨ds, h1, rfl⟩ := h
    rfl
  | nils e => simp [V.view] at h; subst h; rfl
  | nila e => simp [V.view] at h; subst h; rfl
  | rs er k ver off len full =>
    simp only [V.view] at h
    split at h
    · simp only [Option.map_eq_some_iff] at h
      obtain ⟨ds, h1, rfl⟩ := h
      rfl
    · cases h
  | _ => simp [V.view] at h
theorem relN_of_fl {S' : Nat → Prop} {σ' : Sig} {st' : Store} {v : V} {x : D} {val : Value} (h : RelN P S σ st w v val) (hv : V.view st v = some x) (hf : ∀ cs, RelC P S σ st w v cs → Fl P S' w x cs) : RelN P S' σ' st' w (.d x) val := by
  have ha := view_agg hv
  rcases h with h | ⟨h1, cs, rfl, h3⟩ | ⟨h1, h2⟩
  · subst h; simp [V.view] at hv
  · exact .inr (.inl ⟨by rw [ha, h1], cs, rfl, hf cs h3⟩)
  · exact .inr (.inr ⟨by rw [ha, h1], hf _ h2⟩)
theorem argsOk_old (hI : Inv P B0 S σ st w) : ∀ {vs : List V} {ds : List D} {vals : List Value}, V.view.views st vs = some ds → RelNs P S σ st w vs vals → ArgsOk P (Old w) w ds vals
  | [], ds, vals, h, hr => by simp [V.view.views] at h; subst h; exact fun _ _ => hr
  | v :: vs, ds, vals, h, hr => by
    simp only [V.view.views] at h
    split at h
    · rename_i x xs h1 h2
      cases h
      obtain ⟨u, r, rfl, g2, g3⟩ := hr
      exact fun σ' st' => ⟨u, r, rfl, relN_of_fl g2 h1 (fun cs hc => view_rel hI v x cs h1 hc), argsOk_old hI h2 g3 σ' st'⟩
    · cases h
theorem argsOk_pure : ∀ {vs : List V} {ds : List D} {vals : List Value}, V.pure.pures vs = true → V.view.views st vs = some ds → RelNs P S σ st w vs vals → ArgsOk P S w ds vals
  | [], ds, vals, _, h, hr => by simp [V.view.views] at h; subst h; exact fun _ _ => hr
  | v :: vs, ds, vals, hp, h, hr => by
    simp only [V.pure.pures, Bool.and_eq_true] at hp
    simp only [V.view.views] at h
    split at h
    · rename_i x xs h1 h2
      cases h
      obtain ⟨u, r, rfl, g2, g3⟩ := hr
      exact fun σ' st' => ⟨u, r, rfl, relN_of_fl g2 h1 (fun cs hc => pure_rel v x cs hp.1 h1 hc), argsOk_pure hp.2 h2 g3 σ' st'⟩
    · cases h
mutual
theorem flat_any {S' : Nat → Prop} {w' : World} : ∀ (x : D) (cs : List Value), D.flat x = true → Fl P S w x cs → Fl P S' w' x cs
  | .bool b, cs, _, h => h
  | .int k n, cs, _, h => h
  | .str s, cs, _, h => h
  | .agg t ds, cs, hf, h => by
    obtain ⟨css, g1, g2, g3⟩ := h
    exact ⟨css, g1, g2, flats_any ds css (by simpa [D.flat] using hf) g3⟩
  | .sl _ _, _, hf, _ => by simp [D.flat] at hf
  | .ptr _, _, hf, _ => by simp [D.flat] at hf
  | .np, cs, _, h => h
theorem flats_any {S' : Nat → Prop} {w' : World} : ∀ (ds : List D) (css : List (List Value)), D.flat.flats ds = true → Fl.fls P S w ds css → Fl.fls P S' w' ds css
  | [], css, _, h => h
  | d :: ds, css, hf, h => by
    simp only [D.flat.flats, Bool.and_eq_true] at hf
    obtain ⟨c, r, rfl, g2, g3⟩ := h
    exact ⟨c, r, rfl, flat_any d c hf.1 g2, flats_any ds r hf.2 g3⟩
end
theorem relN_d {S' : Nat → Prop} {σ' : Sig} {st' : Store} {w' : World} {x : D} {val : Value} (h : RelN P S σ st w (.d x) val) (hf : ∀ cs, Fl P S w x cs → Fl P S' w' x cs) : RelN P S' σ' st' w' (.d x) val := by
  rcases h with h | ⟨h1, cs, rfl, h3⟩ | ⟨h1, h2⟩
  · cases h
  · exact .inr (.inl ⟨h1, cs, rfl, hf cs h3⟩)
  · exact .inr (.inr ⟨h1, hf _ h2⟩)
theorem relNs_d {S' : Nat → Prop} {σ' : Sig} {st' : Store} {w' : World} : ∀ {xs : List D} {vals : List Value}, (∀ x ∈ xs, ∀ cs, Fl P S w x cs → Fl P S' w' x cs) → RelNs P S σ st w (xs.map V.d) vals → RelNs P S' σ' st' w' (xs.map V.d) vals
  | [], _, _, h => h
  | x :: xs, _, hf, h => by
    obtain ⟨u, r, rfl, h2, h3⟩ := h
    exact ⟨u, r, rfl, relN_d h2 (hf x (by simp)), relNs_d (fun y hy => hf y (by simp [hy])) h3⟩
theorem ret_cases (vs : List V) : (∃ v, vs = [v] ∧ retV vs = v) ∨ retV vs = .tup vs := by
  cases vs with
  | nil => exact .inr rfl
  | cons v r => cases r with
    | nil => exact .inl ⟨v, rfl, rfl⟩
    | cons u r => exact .inr rfl
theorem flats_mem : ∀ {rs : List D}, D.flat.flats rs = true → ∀ x ∈ rs, D.flat x = true
  | [], _, x, hx => by cases hx
  | y :: r, hf, x, hx => by
    simp only [D.flat.flats, Bool.and_eq_true] at hf
    rcases List.mem_cons.1 hx with rfl | hx
    · exact hf.1
    · exact flats_mem hf.2 x hx
theorem resOk_map {S' : Nat → Prop} {w' : World} {rs : List D} {val : Value} (hall : ∀ x ∈ rs, ∀ cs, Fl P S w x cs → Fl P S' w' x cs) (h : ResOk P S w rs val) : ResOk P S' w' rs val := by
  intro σ' st'
  have h0 := h σ' st'
  rcases ret_cases (rs.map V.d) with ⟨v, hv, hr⟩ | hr
  · rw [hr] at h0 ⊢
    cases rs with
    | nil => cases hv
    | cons x r =>
      cases r with
      | nil =>
        simp only [List.map_cons, List.map_nil, List.cons.injEq, and_true] at hv
        subst hv
        exact RelN.to_v (relN_d (h0.n (by simp)) (hall x (by simp)))
      | cons y r => simp at hv
  · rw [hr] at h0 ⊢
    obtain ⟨vals, g1, g2⟩ := h0
    exact ⟨vals, g1, relNs_d hall g2⟩

theorem notup_rel : ∀ {vs : List V} {vals : List Value}, noTup vs = true → (∀ x ∈ vs.zip vals, RelV P S σ st w x.1 x.2) → vs.length = vals.length → RelNs P S σ st w vs vals
  | [], [], _, _, _ => rfl
  | [], _ :: _, _, _, h => by simp at h
  | v :: vs, [], _, _, h => by simp at h
  | v :: vs, u :: us, hn, hr, hl => by
    have hv : (∀ ws, v ≠ .tup ws) ∧ noTup vs = true := by cases v <;> simp [noTup] at hn ⊢ <;> exact hn
    exact ⟨u, us, rfl, (hr (v, u) (by simp)).n hv.1, notup_rel hv.2 (fun x hx => hr x (by simp [hx])) (by simpa using hl)⟩
theorem views_notup : ∀ {vs : List V} {ds : List D}, V.view.views st vs = some ds → noTup vs = true
  | [], _, _ => rfl
  | v :: vs, ds, h => by
    simp only [V.view.views] at h
    split at h
    · rename_i x xs h1 h2
      have := views_notup h2
      cases v <;> first | simpa [noTup] using this | simp [V.view] at h1
    · cases h
theorem caps_rel : ∀ {vs : List V} {vals : List Value}, capsOk vs = true → RelC.rels P S σ st w vs (vals.map fun v => [v]) → RelNs P S σ st w vs vals
  | [], [], _, _ => rfl
  | [], _ :: _, _, h => by simp [RelC.rels] at h
  | _ :: _, [], _, h => by obtain ⟨c, r, e, _⟩ := h; simp at e
  | v :: vs, u :: us, hc, h => by
    obtain ⟨c, r, e, h1, h2⟩ := h
    simp at e
    obtain ⟨rfl, rfl⟩ := e
    obtain ⟨c1, c2, _, _⟩ := capsOk_cons hc
    exact ⟨u, us, rfl, .inr (.inr ⟨c2, h1⟩), caps_rel c1 h2⟩
theorem relNs_append : ∀ {vs us : List V} {xs ys : List Value}, RelNs P S σ st w vs xs → RelNs P S σ st w us ys → RelNs P S σ st w (vs ++ us) (xs ++ ys)
  | [], _, _, _, h, h' => by cases h; exact h'
  | v :: vs, _, _, _, h, h' => by obtain ⟨u, r, rfl, h2, h3⟩ := h; exact ⟨u, r ++ _, rfl, h2, relNs_append h3 h'⟩

/-- Behind a function on plain data. -/
theorem after_spec (hI : Inv P B0 S σ st w) {w' : World} (hb : Below w.heap.size w w') : Inv P B0 (Plus S w w') σ st w' ∧ Evo B0 S σ st w (Plus S w w') σ st w' ∧ Below B0 w w' := by
  have hE : Evo B0 S σ st w (Plus S w w') σ st w' := ⟨hb.size, fun b h => h.imp id (fun q => Nat.le_trans hI.base q.1), fun b h => .inl h, fun b h => hb.block b (hI.safe b h), fun _ => Nat.le_refl _, fun _ _ h => ⟨h, rfl, rfl⟩⟩
  refine ⟨⟨Nat.le_trans hI.base hb.size, fun b h => ?_, fun k hl => ?_, hI.inj⟩, hE, hb.mono hI.base⟩
  · rcases h with h | h
    · exact Nat.lt_of_lt_of_le (hI.safe b h) hb.size
    · exact h.2
  · obtain ⟨h2, h3⟩ := hI.own k hl
    refine ⟨h2, fun b c hs => ?_⟩
    obtain ⟨g1, g2, g3, o, g4, g5⟩ := h3 b c hs
    refine ⟨g1, Nat.lt_of_lt_of_le g2 hb.size, fun h => ?_, o, (hb.block b g2).trans g4, Holds.mono hE g5⟩
    rcases h with h | h
    · exact g3 h
    · omega

theorem nth_some {α : Type} {l : List α} {i : Nat} {x : α} (h : nth l i = some x) : l[i]? = some x := by rw [← nth_eq]; exact h
/-- What a value handed over stands for. -/
theorem arg_relN (hI : Inv P B0 S σ st w) {v : V} {x : D} {val : Value} (h : V.arg st v = some x) (hr : RelN P S σ st w v val) (σ0 : Sig) (st0 : Store) : RelN P (Old w) σ0 st0 w (.d x) val := by
  have base : V.view st v = some x → RelN P (Old w) σ0 st0 w (.d x) val := fun hv => relN_of_fl hr hv fun cs hc => view_rel hI v x cs hv hc
  unfold V.arg at h
  split at h
  · rename_i k ver i path
    split at h
    · rename_i hvl
      obtain ⟨hver, hlive⟩ := hvl
      split at h
      · rename_i v0 hi
        split at h
        · rename_i y hp
          simp only [Option.map_eq_some_iff] at h
          obtain ⟨d, hd, rfl⟩ := h
          rcases hr with hr | ⟨hr, _⟩ | ⟨_, A, hA, _, hfr⟩
          · cases hr
          · simp [V.isAgg] at hr
          · obtain ⟨gp, b, cap, off, hσ, hoff, rfl⟩ := hfr hver.symm hlive
            have hi' := nth_some hi
            obtain ⟨cur, css, c, q1, q2, q3, q4, q5, q6, q7, q8, _⟩ := elem_cells hI gp hlive hσ hi'
            obtain ⟨off', cy, p1, p2, p3, p4⟩ := getPath_cells path v0 y c q3 hp
            rw [hoff] at p1
            cases p1
            have hbs : b < w.heap.size := ((hI.own k hlive).some b cap hσ).2.1
            refine .inr (.inr ⟨rfl, b, _, cy, hA, hbs, ⟨cur, (st k).e, (0, 0), q1, fun j hj => ?_⟩, view_rel hI y d cy hd p2⟩)
            rw [Nat.add_assoc, cell_of_take q7 (by omega), q6 (off + j) (by omega), p4 j hj]
        · cases h
      · cases h
    · cases h
  · exact base h
theorem args_relN (hI : Inv P B0 S σ st w) : ∀ {vs : List V} {ds : List D} {vals : List Value}, V.args st vs = some ds → RelNs P S σ st w vs vals → ArgsOk P (Old w) w ds vals
  | [], ds, vals, h, hr => by cases h; intro σ0 st0; exact hr
  | v :: vs, ds, vals, h, hr => by
    simp only [V.args] at h
    split at h
    · rename_i x xs h1 h2
      cases h
      obtain ⟨val, r, rfl, g1, g2⟩ := hr
      intro σ0 st0
      exact ⟨val, r, rfl, arg_relN hI h1 g1 σ0 st0, args_relN hI h2 g2 σ0 st0⟩
    · cases h
theorem args_pure : ∀ {vs : List V} {ds : List D}, V.pure.pures vs = true → V.args st vs = some ds → V.view.views st vs = some ds
  | [], ds, _, h => h
  | v :: vs, ds, hp, h => by
    simp only [V.pure.pures, Bool.and_eq_true] at hp
    simp only [V.args] at h
    split at h
    · rename_i x xs h1 h2
      cases h
      have e1 : V.view st v = some x := by cases v <;> first | exact h1 | simp [V.pure] at hp
      simp only [V.view.views, e1, args_pure hp.2 h2]
    · cases h
theorem args_notup : ∀ {vs : List V} {ds : List D}, V.args st vs = some ds → noTup vs = true
  | [], _, _ => rfl
  | v :: vs, ds, h => by
    simp only [V.args] at h
    split at h
    · rename_i x xs h1 h2
      have hr := args_notup h2
      cases v <;> first
        | (simp only [noTup]; exact hr)
        | (simp [V.arg, V.view] at h1)
    · cases h
theorem notup_append : ∀ {vs us : List V}, noTup (vs ++ us) = true → noTup vs = true ∧ noTup us = true
  | [], us, h => ⟨rfl, h⟩
  | v :: vs, us, h => by
    cases v <;> first
      | (simp [noTup] at h; done)
      | (obtain ⟨h1, h2⟩ := notup_append (vs := vs) (us := us) (by simpa [noTup] using h); exact ⟨by simpa [noTup] using h1, h2⟩)
/-- A call, by name or through a value. -/
theorem evCall_sound {Γ : Specs} {call : Caller} {lv : Nat} {f : V} {xs : List V} {v : V} {st' : Store} {fv : Value} {vals : List Value} (hΓ : ∀ g s, look Γ g = some s → SpecOk P g s) (hcall : CallerOk P call)
    (h : evCall Γ call lv st f xs = some (v, st')) (hI : Inv P B0 S σ st w) (hf : RelV P S σ st w f fv) (hx : ∀ x ∈ xs.zip vals, RelV P S σ st w x.1 x.2) (hl : xs.length = vals.length) :
    ∃ (g : FuncId) (caps : List Value), fv = .func (.func g) #[] caps.toArray ∧ CallIn P g (vals ++ caps).toArray w fun val w' => ∃ S' σ', Inv P B0 S' σ' st' w' ∧ Evo B0 S σ st w S' σ' st' w' ∧ Below B0 w w' ∧ RelV P S' σ' st' w' v val := by
  unfold evCall at h
  split at h
  · rename_i g caps
    obtain ⟨cv, hfv, hcaps⟩ := relV_one hf rfl (by simp) (by simp)
    simp at hfv
    refine ⟨g, cv, hfv, ?_⟩
    split at h
    · rename_i s hs
      split at h
      · rename_i hc
        split at h
        · rename_i ds hds
          split at h
          · rename_i rs hrs
            split at h
            · rename_i hq
              cases h
              have hnt := notup_append (args_notup hds)
              have hn := relNs_append (notup_rel hnt.1 hx hl) (caps_rel hc hcaps)
              simp only [Bool.or_eq_true] at hq
              rcases hq with hq | hq
              · refine (hΓ g s hs ds rs S w (vals ++ cv) hrs hI.safe (argsOk_pure hq (args_pure hq hds) hn)).mono fun val w' ⟨hb, hr⟩ => ?_
                obtain ⟨g1, g2, g3⟩ := after_spec hI hb
                exact ⟨_, σ, g1, g2, g3, hr σ _⟩
              · refine (hΓ g s hs ds rs (Old w) w (vals ++ cv) hrs (fun b h => h) (args_relN hI hds hn)).mono fun val w' ⟨hb, hr⟩ => ?_
                obtain ⟨g1, g2, g3⟩ := after_spec hI hb
                exact ⟨_, σ, g1, g2, g3, resOk_map (fun x hx cs hc => flat_any x cs (flats_mem hq x hx) hc) hr σ _⟩
            · cases h
          · cases h
        · cases h
      · cases h
    · split at h
      · rename_i hq
        simp only [Bool.and_eq_true] at hq
        exact hcall g (xs ++ caps) lv st v st' h B0 S σ w (vals ++ cv) hI (relNs_append (notup_rel hq.1 hx hl) (caps_rel hq.2 hcaps))
      · cases h
  · cases h
end
end Go.Ev
end
section
set_option linter.unusedVariables false
set_option linter.unusedSimpArgs false
set_option linter.unusedSectionVars false
namespace Go.Ev
open Go.RowKit

/-- What is left to show behind a piece of code. -/
def Cont (P : Program) (B0 : Nat) (S : Nat → Prop) (σ : Sig) (st : Store) (w : World) (env' : List V) (st' : Store) (K : Act → World → Prop) : Prop :=
  ∀ S' σ' w' a', Inv P B0 S' σ' st' w' → Evo B0 S σ st w S' σ' st' w' → Below B0 w w' → EnvRel P S' σ' st' w' env' a'.tmps → a'.defers = [] → K a' w'

section
variable {P : Program} {B0 : Nat} {S : Nat → Prop} {σ : Sig} {st : Store} {w : World} {env : List V} {a : Act} {Γ : Specs} {call : Caller} {lv : Nat} {ops : Array Oper}

theorem Cont.step {S1 : Nat → Prop} {σ1 : Sig} {st1 : Store} {w1 : World} {env' : List V} {st' : Store} {K : Act → World → Prop} (h : Cont P B0 S σ st w env' st' K) (hE : Evo B0 S σ st w S1 σ1 st1 w1) (hb : Below B0 w w1) : Cont P B0 S1 σ1 st1 w1 env' st' K :=
  fun S' σ' w' a' h1 h2 h3 h4 h5 => h S' σ' w' a' h1 (hE.trans h2) (hb.trans h3) h4 h5
theorem put_defers (d : Option Tmp) (v : Value) (h : a.defers = []) : (a.put d v).defers = [] := by cases d <;> exact h

theorem undef_rel : RelV P S σ st w (.tup []) undef := ⟨[], rfl, rfl⟩
theorem getD_some {tmps : Array Value} {t : Nat} {v : Value} (h : tmps.getD t undef = v) (hv : v ≠ undef) : tmps[t]? = some v := by
  rw [Array.getD_eq_getD_getElem?] at h
  cases hq : tmps[t]? with
  | none => rw [hq] at h; exact absurd h.symm hv
  | some u => rw [hq] at h; simp at h; rw [h]

theorem step_sound {o : Oper} {env' : List V} {st' : Store} {K : Act → World → Prop} {Q : Exit → Act → World → Prop} (hΓ : ∀ g s, look Γ g = some s → SpecOk P g s) (hcall : CallerOk P call)
    (h : stepO P Γ call lv ops o env st = some (env', st')) (hI : Inv P B0 S σ st w) (hrel : EnvRel P S σ st w env a.tmps) (hd : a.defers = []) (hK : Cont P B0 S σ st w env' st' K) :
    if Region.wanted o (yielded ops a.tmps) then o.wp P a w K Q ∨ (o.asks P a w ∧ LetsOut Q) else K (a.put o.dst undef) w := by
  obtain ⟨v, hv, rfl⟩ := putR_inv h
  -- the operation itself
  have hrun : evOp P Γ call lv o.dst o.type env st o.op = some (v, st') → o.wp P a w K Q := by
    intro hop
    by_cases hc : isCall o.op = true
    · have : ∃ f args ts, o.op = .call { callee := .value f, args := args, argTypes := ts } := by
        unfold isCall at hc
        split at hc
        · rename_i f args ts ho; exact ⟨f, args, ts, ho⟩
        · cases hc
      obtain ⟨f, args, ts, ho⟩ := this
      rw [ho, evOp_call] at hop
      obtain ⟨g, caps, hfv, hin⟩ := evCall_sound (vals := args.toList.map a.eval) hΓ hcall hop hI (evalT_rel hrel 0 f) (zip_swap (evArgs_rel hrel _ _)) (by simp [evArgs_length])
      refine wp_of_callIn hin ?_ ?_
      · unfold execOp
        simp only [ho, resolve, invoke, Sem.run_bind, hfv, Deferred.ofValue, Sem.run_pure, Result.andThen_ok]
        have e1 : (#[] ++ Array.map a.eval args ++ caps.toArray) = (args.toList.map a.eval ++ caps).toArray := by
          rw [Array.empty_append]
          apply Array.ext'
          simp
        rw [e1]
      · intro val w' ⟨S', σ', h1, h2, h3, h4⟩
        exact hK S' σ' w' _ h1 h2 h3 ((hrel.mono h2).putD h4 o.dst) (put_defers _ _ hd)
    · obtain ⟨val, nx, w', S', σ', h1, h2, h3, h4, h5, h6⟩ := op_sound hI hrel (by simpa using hc) hop
      unfold Oper.wp
      rw [h1]
      have hk := hK S' σ' w' (a.put o.dst val) h3 h4 h5 ((hrel.mono h4).putD h6 o.dst) (put_defers _ _ hd)
      rcases h2 with rfl | ⟨rfl, rfl⟩
      · rw [Oper.upon_value]; exact hk
      · rw [Oper.upon_skip]; exact hk
  have hskip : v = .tup [] → st' = st → K (a.put o.dst undef) w := by
    rintro rfl rfl
    exact hK S σ w _ hI (Evo.refl ..) (Below.refl _ _) (hrel.putD undef_rel o.dst) (put_defers _ _ hd)
  have run : Region.wanted o (yielded ops a.tmps) = true → evOp P Γ call lv o.dst o.type env st o.op = some (v, st') → (if Region.wanted o (yielded ops a.tmps) then o.wp P a w K Q ∨ (o.asks P a w ∧ LetsOut Q) else K (a.put o.dst undef) w) := by
    intro h1 h2
    rw [if_pos h1]; exact .inl (hrun h2)
  have skip : Region.wanted o (yielded ops a.tmps) = false → v = .tup [] → st' = st → (if Region.wanted o (yielded ops a.tmps) then o.wp P a w K Q ∨ (o.asks P a w ∧ LetsOut Q) else K (a.put o.dst undef) w) := by
    intro h1 h2 h3
    rw [if_neg (by rw [h1]; simp)]; exact hskip h2 h3
  unfold stepV at hv
  cases hg : o.guard with
  | none =>
    rw [hg] at hv
    exact run (by unfold Region.wanted; rw [hg]) hv
  | some g =>
    obtain ⟨j, want⟩ := g
    rw [hg] at hv
    simp only at hv
    rw [dstAt_eq] at hv
    cases ht : (ops[j]?).bind (·.dst) with
    | none => rw [ht] at hv; cases hv
    | some t =>
      rw [ht] at hv
      simp only at hv
      have hval := hrel.2 t
      cases hgt : V.get env t with
      | d x =>
        rw [hgt] at hv hval
        cases x with
        | bool q =>
          simp only at hv
          have hb := relV_bool hval
          have hy : yielded ops a.tmps j = some q := by
            unfold yielded
            rw [ht]
            simp only [Option.bind_some, getD_some hb (by simp [undef])]
          have hw : Region.wanted o (yielded ops a.tmps) = (some q == some want) := by unfold Region.wanted; rw [hg]; simp only [hy]
          by_cases hq : q = want
          · rw [if_pos hq] at hv
            exact run (by rw [hw, hq]; simp) hv
          · rw [if_neg hq] at hv
            cases hv
            exact skip (by rw [hw]; simpa using hq) rfl rfl
        | _ => cases hv
      | tup vs =>
        rw [hgt] at hv hval
        cases vs with
        | cons _ _ => cases hv
        | nil =>
          cases hv
          obtain ⟨vals, g1, g2⟩ := hval
          cases g2
          have hy : yielded ops a.tmps j = none := by
            unfold yielded
            rw [ht]
            simp only [Option.bind_some]
            rw [Array.getD_eq_getD_getElem?] at g1
            cases hq : a.tmps[t]? with
            | none => rfl
            | some u => rw [hq] at g1; simp at g1; subst g1; rfl
          have hw : Region.wanted o (yielded ops a.tmps) = false := by unfold Region.wanted; rw [hg]; simp only [hy]; rfl
          exact skip hw rfl rfl
      | _ => rw [hgt] at hv; cases hv

/-- A region in its order. -/
theorem list_sound {Q : Exit → Act → World → Prop} (hΓ : ∀ g s, look Γ g = some s → SpecOk P g s) (hcall : CallerOk P call) : ∀ (l : List Oper) {S : Nat → Prop} {σ : Sig} {st : Store} {w : World} {env : List V} {a : Act} {env' : List V} {st' : Store},
    evOps P Γ call lv ops.toList l env st = some (env', st') → Inv P B0 S σ st w → EnvRel P S σ st w env a.tmps → a.defers = [] → Cont P B0 S σ st w env' st' (Q .normal) → wpList P ops Q l a w
  | [], S, σ, st, w, env, a, env', st', h, hI, hrel, hd, hQ => by
    simp only [evOps, Option.some.injEq, Prod.mk.injEq] at h
    obtain ⟨rfl, rfl⟩ := h
    exact hQ S σ w a hI (Evo.refl ..) (Below.refl _ _) hrel hd
  | o :: r, S, σ, st, w, env, a, env', st', h, hI, hrel, hd, hQ => by
    rw [evOps_cons] at h
    cases hs : stepO P Γ call lv ops o env st with
    | none => rw [hs] at h; cases h
    | some q =>
      obtain ⟨e1, s1⟩ := q
      rw [hs, thenO_s] at h
      unfold wpList
      refine step_sound hΓ hcall hs hI hrel hd ?_
      intro S' σ' w' a' h1 h2 h3 h4 h5
      exact list_sound hΓ hcall r h h1 h4 h5 (hQ.step h2 h3)

/-! ### any order -/
/-- What has not been done yet. -/
def remL (ops : Array Oper) (listed : Array Bool) : List Oper := (ops.toList.zipIdx.filter fun x => !listed.getD x.2 true).map (·.1)
theorem zipIdx_at {l : List Oper} {i : Nat} {o : Oper} (h : l[i]? = some o) : l.zipIdx = (l.take i).zipIdx ++ (o, i) :: (l.drop (i + 1)).zipIdx (i + 1) := by
  have hlt := (List.getElem?_eq_some_iff.1 h).1
  have ho := (List.getElem?_eq_some_iff.1 h).2
  conv => lhs; rw [← List.take_append_drop i l, List.zipIdx_append, List.drop_eq_getElem_cons hlt, ho]
  simp [Nat.min_eq_left (Nat.le_of_lt hlt), List.zipIdx_cons]
theorem getD_set {listed : Array Bool} {i j : Nat} (h : i ≠ j) (d : Bool) : (listed.setIfInBounds i true).getD j d = listed.getD j d := by
  simp [Array.getD_eq_getD_getElem?, Array.getElem?_setIfInBounds_ne h]
theorem rem_split {listed : Array Bool} {i : Nat} {o : Oper} (ho : ops[i]? = some o) (hn : listed.getD i true = false) :
    ∃ pre post, remL ops listed = pre ++ o :: post ∧ remL ops (listed.setIfInBounds i true) = pre ++ post ∧ ∀ x ∈ pre, ∃ j, j < i ∧ ops[j]? = some x ∧ listed.getD j true = false := by
  have ho' : ops.toList[i]? = some o := by rw [Array.getElem?_toList]; exact ho
  have hz := zipIdx_at ho'
  have hA : ∀ x ∈ (ops.toList.take i).zipIdx, x.2 < i ∧ ops[x.2]? = some x.1 := by
    intro x hx
    obtain ⟨y, j⟩ := x
    rw [List.mem_zipIdx_iff_getElem?] at hx
    have hlt := (List.getElem?_eq_some_iff.1 hx).1
    simp at hlt
    rw [List.getElem?_take_of_lt (by omega), Array.getElem?_toList] at hx
    exact ⟨by omega, hx⟩
  have hB : ∀ x ∈ (ops.toList.drop (i + 1)).zipIdx (i + 1), i < x.2 := by
    intro x hx
    obtain ⟨y, j⟩ := x
    have := List.le_snd_of_mem_zipIdx hx
    omega
  refine ⟨(((ops.toList.take i).zipIdx).filter fun x => !listed.getD x.2 true).map (·.1), (((ops.toList.drop (i + 1)).zipIdx (i + 1)).filter fun x => !listed.getD x.2 true).map (·.1), ?_, ?_, ?_⟩
  · unfold remL
    rw [hz, List.filter_append, List.filter_cons]
    simp [hn]
  · unfold remL
    rw [hz, List.filter_append, List.filter_cons]
    have h1 : (!(listed.setIfInBounds i true).getD i true) = false := by
      by_cases hlt : i < listed.size <;> simp [Array.getD_eq_getD_getElem?, hlt]
    rw [h1]
    simp only [Bool.false_eq_true, if_false, List.map_append]
    congr 2
    · apply List.filter_congr
      intro x hx
      rw [getD_set (by have := (hA x hx).1; omega)]
    · apply List.filter_congr
      intro x hx
      rw [getD_set (by have := hB x hx; omega)]
  · intro x hx
    obtain ⟨y, hy, rfl⟩ := List.mem_map.1 hx
    obtain ⟨h1, h2⟩ := List.mem_filter.1 hy
    obtain ⟨h3, h4⟩ := hA y h1
    exact ⟨y.2, h3, h4, by simpa using h2⟩

theorem rem_nil {nc : Bool} {m u f : List Bool} {listed : Array Bool} (hsz : listed.size = ops.size) {G : List FuncId} (hok : drawOk nc G m u f ops = true) (h : Region.ready .any ops listed = []) : remL ops listed = [] := by
  -- the first that is left would be ready
  apply Classical.byContradiction
  intro hne
  have hex : ∃ i, i < ops.size ∧ listed.getD i true = false := by
    obtain ⟨x, hx⟩ := List.exists_mem_of_ne_nil _ hne
    obtain ⟨y, hy, rfl⟩ := List.mem_map.1 hx
    obtain ⟨h1, h2⟩ := List.mem_filter.1 hy
    obtain ⟨z, j⟩ := y
    rw [List.mem_zipIdx_iff_getElem?] at h1
    have := (List.getElem?_eq_some_iff.1 h1).1
    exact ⟨j, by simpa using this, by simpa using h2⟩
  have least : ∀ n, (∃ i, i ≤ n ∧ i < ops.size ∧ listed.getD i true = false) → ∃ i, i < ops.size ∧ listed.getD i true = false ∧ ∀ j, j < i → listed.getD j true = true := by
    intro n
    induction n with
    | zero => rintro ⟨i, h1, h2, h3⟩; exact ⟨i, h2, h3, fun j hj => by omega⟩
    | succ n ih =>
      rintro ⟨i, h1, h2, h3⟩
      by_cases hlt : ∃ j, j ≤ n ∧ j < ops.size ∧ listed.getD j true = false
      · exact ih hlt
      · refine ⟨i, h2, h3, fun j hj => ?_⟩
        cases hq : listed.getD j true with
        | true => rfl
        | false => exact absurd ⟨j, by omega, by omega, hq⟩ hlt
  obtain ⟨i0, h1, h2⟩ := hex
  obtain ⟨i, hi, hn, hall⟩ := least i0 ⟨i0, Nat.le_refl _, h1, h2⟩
  have ho : ops[i]? = some ops[i] := Array.getElem?_eq_getElem hi
  have hmem : i ∈ Region.ready .any ops listed := by
    rw [mem_ready]
    refine ⟨hn, ops[i], ho, fun e he hb => ?_⟩
    have hz : (ops[i], i) ∈ ops.toList.zipIdx := by rw [List.mem_zipIdx_iff_getElem?, Array.getElem?_toList]; exact ho
    unfold drawOk at hok
    rw [Bool.and_eq_true] at hok
    have hok := hok.2
    rw [List.all_eq_true] at hok
    have := hok _ hz
    simp only [Bool.and_eq_true] at this
    obtain ⟨hedge, _⟩ := this
    rw [List.all_eq_true] at hedge
    have hlt := hedge e (by simpa using he)
    simp only [hb, Bool.not_true, Bool.false_or, decide_eq_true_eq] at hlt
    have := hall e.on hlt
    have hsz' : e.on < listed.size := by omega
    simp only [Array.getD_eq_getD_getElem?, Array.getElem?_eq_getElem hsz', Option.getD_some] at this ⊢
    exact this
  rw [h] at hmem
  cases hmem

/-- All that comes before is done. -/
def Closed (ops : Array Oper) (listed : Array Bool) : Prop := ∀ i o, ops[i]? = some o → listed.getD i false = true → ∀ e ∈ o.after, Region.binds .any e = true → listed.getD e.on false = true
theorem mask_listed {listed : Array Bool} (hcl : Closed ops listed) : ∀ (n i : Nat), i ≤ n → ∀ o j, ops[i]? = some o → (∀ e ∈ o.after, Region.binds .any e = true → listed.getD e.on false = true) →
    ((masksGo ops.toList []).getD i 0).testBit j = true → listed.getD j false = true
  | n, i, hin, o, j, ho, hd, hb => by
    have ho' : ops.toList[i]? = some o := by rw [Array.getElem?_toList]; exact ho
    have hm := (masksGo_spec ops.toList []).2 i o ho'
    simp only [List.length_nil, Nat.zero_add] at hm
    rw [List.getD_eq_getElem?_getD, hm, Option.getD_some] at hb
    obtain ⟨e, he, hbe, hj⟩ := maskOne_spec hb
    have hle := hd e (by simpa using he) hbe
    rcases hj with rfl | hj
    · exact hle
    · rw [List.getD_eq_getElem?_getD] at hj
      by_cases hlt : e.on < i
      · rw [List.getElem?_take_of_lt hlt] at hj
        have hei : e.on < ops.size := by have := (List.getElem?_eq_some_iff.1 ho').1; simp at this; omega
        cases n with
        | zero => omega
        | succ n =>
          exact mask_listed hcl n e.on (by omega) ops[e.on] j (Array.getElem?_eq_getElem hei) (hcl e.on _ (Array.getElem?_eq_getElem hei) hle) (by rw [List.getD_eq_getElem?_getD]; exact hj)
      · rw [List.getElem?_eq_none (by simp; omega)] at hj
        simp at hj

theorem getD_tf {listed : Array Bool} {i : Nat} (h : i < listed.size) (b : Bool) : listed.getD i true = b ↔ listed.getD i false = b := by
  simp [Array.getD_eq_getD_getElem?, Array.getElem?_eq_getElem h]

theorem keep_of {nc : Bool} {G : List FuncId} {m u f : List Bool} (hok : drawOk nc G m u f ops = true) : f = [] ∨ ((∀ x ∈ ops.toList, keeps nc G x.op = true) ∧ ∀ (i k : Nat) (o ok : Oper), ops[i]? = some o → ops[k]? = some ok → i ≠ k → ∀ d, ok.dst = some d → o.dst ≠ some d) := by
  unfold drawOk at hok
  simp only [Bool.and_eq_true, Bool.or_eq_true] at hok
  rcases hok.1.2 with h | ⟨h1, h2⟩
  · exact .inl (by simpa using h)
  · refine .inr ⟨fun x hx => (List.all_eq_true.1 h1) x hx, fun i k o ok hi hk hne d hd => ?_⟩
    have hzi : (o, i) ∈ ops.toList.zipIdx := by rw [List.mem_zipIdx_iff_getElem?, Array.getElem?_toList]; exact hi
    have hzk : (ok, k) ∈ ops.toList.zipIdx := by rw [List.mem_zipIdx_iff_getElem?, Array.getElem?_toList]; exact hk
    rcases Nat.lt_or_gt_of_ne hne with hlt | hlt
    · have := (List.all_eq_true.1 ((List.all_eq_true.1 h2) _ hzk)) _ hzi
      simp only [Bool.or_eq_true, Bool.not_eq_true', decide_eq_false_iff_not, bne_iff_ne, ne_eq] at this
      rcases this with (this | this) | this
      · exact absurd hlt this
      · intro e; rw [e] at this; cases this
      · intro e; exact this (by rw [e, hd])
    · have := (List.all_eq_true.1 ((List.all_eq_true.1 h2) _ hzi)) _ hzk
      simp only [Bool.or_eq_true, Bool.not_eq_true', decide_eq_false_iff_not, bne_iff_ne, ne_eq] at this
      rcases this with (this | this) | this
      · exact absurd hlt this
      · rw [hd] at this; cases this
      · intro e; exact this (by rw [e, hd])
theorem any_sound {nc : Bool} {m u f : List Bool} {env0 : List V} (hap : m = [] ∨ apartAll (sel m env0) = true) (hnc : ((nc = true → call = noCall) ∧ lv < 1000000000000000000000000000000)) {Q : Exit → Act → World → Prop} (hΓ : ∀ g s, look Γ g = some s → SpecOk P g s) (hcall : CallerOk P call) (hok : drawOk nc (Γ.map (·.1)) m u f ops = true) : ∀ (fuel : Nat) (listed : Array Bool) {S : Nat → Prop} {σ : Sig} {st : Store} {w : World} {env : List V} {a : Act} {env' : List V} {st' : Store},
    listed.size = ops.size → Closed ops listed → (m = [] ∨ (rootsOk (andL m u) ops.toList u = true ∧ Good lv (andL m u) ops.toList env0 env)) → (f = [] ∨ ∀ (k : Nat) (ok : Oper), ops[k]? = some ok → listed.getD k true = false → Dead lv f ok st) → (remL ops listed).length ≤ fuel → evOps P Γ call lv ops.toList (remL ops listed) env st = some (env', st') → Inv P B0 S σ st w → EnvRel P S σ st w env a.tmps → a.defers = [] →
    Cont P B0 S σ st w env' st' (Q .normal) → wpAny P .any ops Q fuel listed a w := by
  intro fuel
  induction fuel with
  | zero =>
    intro listed S σ st w env a env' st' hsz hcl hG hF hf h hI hrel hd hQ
    have hr : remL ops listed = [] := List.eq_nil_of_length_eq_zero (by omega)
    rw [hr] at h
    simp only [evOps, Option.some.injEq, Prod.mk.injEq] at h
    obtain ⟨rfl, rfl⟩ := h
    refine ⟨?_, hQ S σ w a hI (Evo.refl ..) (Below.refl _ _) hrel hd⟩
    apply Classical.byContradiction
    intro hne
    obtain ⟨i, hi⟩ := List.exists_mem_of_ne_nil _ hne
    obtain ⟨hn, o, ho, _⟩ := mem_ready.1 hi
    obtain ⟨pre, post, h1, _⟩ := rem_split ho (by
      rw [getD_tf (by rw [hsz]; exact (Array.getElem?_eq_some_iff.1 ho).1)] at *
      first | exact hn | simpa using hn)
    rw [hr] at h1
    simp at h1
  | succ fuel ih =>
    intro listed S σ st w env a env' st' hsz hcl hG hF hf h hI hrel hd hQ
    refine ⟨fun hr => ?_, fun i hi => ?_⟩
    · have hr' := rem_nil hsz hok hr
      rw [hr'] at h
      simp only [evOps, Option.some.injEq, Prod.mk.injEq] at h
      obtain ⟨rfl, rfl⟩ := h
      exact hQ S σ w a hI (Evo.refl ..) (Below.refl _ _) hrel hd
    · obtain ⟨hn, o, ho, hdeps⟩ := mem_ready.1 hi
      have hilt : i < listed.size := by rw [hsz]; exact (Array.getElem?_eq_some_iff.1 ho).1
      obtain ⟨pre, post, h1, h2, h3⟩ := rem_split ho hn
      rw [h1] at h
      obtain ⟨e1, s1, g1, g2⟩ := front hnc (al := andL m u) (env0 := env0) (m := m) (u := u) (f := f) pre env st (by
        intro x hx
        obtain ⟨j, hj, hxj, hjn⟩ := h3 x hx
        have hz : (o, i) ∈ ops.toList.zipIdx := by rw [List.mem_zipIdx_iff_getElem?, Array.getElem?_toList]; exact ho
        have hzj : (x, j) ∈ ops.toList.zipIdx := by rw [List.mem_zipIdx_iff_getElem?, Array.getElem?_toList]; exact hxj
        have hk := hok
        unfold drawOk at hk
        rw [Bool.and_eq_true] at hk
        have hk := hk.2
        rw [List.all_eq_true] at hk
        have := hk _ hz
        simp only [Bool.and_eq_true] at this
        have := this.2
        rw [List.all_eq_true] at this
        have := this _ hzj
        simp only [Bool.or_eq_true, Bool.not_eq_true', decide_eq_false_iff_not, Bool.and_eq_true] at this
        refine ⟨Array.mem_toList_iff.2 (Array.mem_of_getElem? hxj), ?_⟩
        rcases this with (this | this) | ⟨this, hcd⟩
        · exact absurd hj this
        · have hl := mask_listed hcl i i (Nat.le_refl _) o j ho hdeps this
          have hjlt : j < listed.size := by omega
          rw [(getD_tf hjlt false).1 hjn] at hl
          cases hl
        · refine ⟨this, hcd.imp (fun hcd => hcd.imp id fun hdy => ?_) id⟩
          rcases hap with rfl | hap
          · exfalso
            unfold dynPair at hdy
            repeat' split at hdy
            all_goals simp at hdy
          · exact ⟨hdy, hap⟩) hG (by
        rcases keep_of hok with hk | ⟨hk, _⟩
        · exact .inl hk
        · exact hF.imp id fun q => ⟨hk, q i o ho hn⟩) h
      unfold wpOp
      rw [ho]
      refine step_sound hΓ hcall g1 hI hrel hd ?_
      intro S' σ' w' a' q1 q2 q3 q4 q5
      refine ih (listed.setIfInBounds i true) (by simpa using hsz) ?_ (hG.imp id fun ⟨q1, q2⟩ => ⟨q1, q2.step q1 (Array.mem_toList_iff.2 (Array.mem_of_getElem? ho)) g1⟩) ?_ ?_ (by rw [h2]; exact g2) q1 q4 q5 (hQ.step q2 q3)
      · intro k ok hk hlk e he hb
        by_cases hki : k = i
        · subst hki
          rw [ho] at hk
          cases hk
          have := hdeps e he hb
          by_cases hei : e.on = k
          · rw [hei]; simp [Array.getD_eq_getD_getElem?, hilt]
          · rw [getD_set (fun e' => hei e'.symm)]; exact this
        · rw [getD_set (fun e' => hki e'.symm)] at hlk
          have := hcl k ok hk hlk e he hb
          by_cases hei : e.on = i
          · rw [hei]; simp [Array.getD_eq_getD_getElem?, hilt]
          · rw [getD_set (fun e' => hei e'.symm)]; exact this
      · rcases keep_of hok with hk | ⟨hk, hdis⟩
        · exact .inl hk
        · refine hF.imp id fun q k ok' hk2 hlk d h1d h2d => ?_
          have hki : k ≠ i := by
            rintro rfl
            simp [Array.getD_eq_getD_getElem?, hilt] at hlk
          rw [getD_set (fun e' => hki e'.symm)] at hlk
          exact keep_dead hnc (hk o (Array.mem_toList_iff.2 (Array.mem_of_getElem? ho))) g1 (hdis i k o ok' ho hk2 (Ne.symm hki) d h1d) (q k ok' hk2 hlk d h1d h2d)
      · rw [h2]
        rw [h1] at hf
        simp at hf ⊢
        omega

theorem rem_all : remL ops (Array.replicate ops.size false) = ops.toList := by
  unfold remL
  have : (ops.toList.zipIdx.filter fun x => !(Array.replicate ops.size false).getD x.2 true) = ops.toList.zipIdx := by
    apply List.filter_eq_self.2
    intro x hx
    obtain ⟨y, j⟩ := x
    rw [List.mem_zipIdx_iff_getElem?] at hx
    have := (List.getElem?_eq_some_iff.1 hx).1
    simp at this
    simp [Array.getD_eq_getD_getElem?, this]
  rw [this]
  simp [List.zipIdx_map_fst]

/-- A region, in whatever order. -/
theorem region_sound {draw : Bool} {nc : Bool} {m u f : List Bool} (hap : draw = true → m = [] ∨ (apartAll (sel m (aenv lv (andL m u) env)) = true ∧ freeAll (sel u env) = true)) (hfd : draw = true → f = [] ∨ deadAll lv st f 0 = true) (hlv : draw = true → lv < 1000000000000000000000000000000) (hnc : nc = true → call = noCall) {id : Nat} {Q : Exit → Act → World → Prop} {env' : List V} {st' : Store} (hm : P.follows .mixedOrders = true) (hΓ : ∀ g s, look Γ g = some s → SpecOk P g s) (hcall : CallerOk P call) (hok : draw = true → drawOk nc (Γ.map (·.1)) m u f ops = true)
    (h : evOps P Γ call lv ops.toList ops.toList env st = some (env', st')) (hI : Inv P B0 S σ st w) (hrel : EnvRel P S σ st w env a.tmps) (hd : a.defers = []) (hQ : Cont P B0 S σ st w env' st' (Q .normal)) : (Code.region id ops draw).wp P Q a w := by
  cases draw with
  | false => exact wp_region_list (list_sound hΓ hcall ops.toList h hI hrel hd hQ)
  | true =>
    refine wp_region_any hm ?_
    have hI' : Inv P B0 S σ st w.drew := by
      refine ⟨hI.base, hI.safe, fun k hl => ?_, hI.inj⟩
      obtain ⟨h2, h3⟩ := hI.own k hl
      refine ⟨h2, fun b c hs => ?_⟩
      obtain ⟨g1, g2, g3, o, g4, g5⟩ := h3 b c hs
      exact ⟨g1, g2, g3, o, g4, Holds.mono (⟨Nat.le_refl _, fun _ h => .inl h, fun _ h => h, fun _ _ => rfl, fun _ => Nat.le_refl _, fun _ _ h => ⟨h, rfl, rfl⟩⟩ : Evo B0 S σ st w S σ st w.drew) g5⟩
    have hE : Evo B0 S σ st w S σ st w.drew := ⟨Nat.le_refl _, fun _ h => .inl h, fun _ h => h, fun _ _ => rfl, fun _ => Nat.le_refl _, fun _ _ h => ⟨h, rfl, rfl⟩⟩
    have hG : m = [] ∨ (rootsOk (andL m u) ops.toList u = true ∧ Good lv (andL m u) ops.toList (aenv lv (andL m u) env) env) := by
      rcases hap rfl with h | ⟨_, h⟩
      · exact .inl h
      · have hk := hok rfl
        unfold drawOk at hk
        simp only [Bool.and_eq_true, Bool.or_eq_true] at hk
        rcases hk.1.1 with hk | hk
        · exact .inl (by simpa using hk)
        · exact .inr ⟨hk, Good.start hk h⟩
    have hF : f = [] ∨ ∀ (k : Nat) (ok : Oper), ops[k]? = some ok → (Array.replicate ops.size false).getD k true = false → Dead lv f ok st := (hfd rfl).imp (fun q => q) fun h k ok _ _ d _ h2 => by
      have := deadAll_spec h d h2
      rwa [Nat.zero_add] at this
    refine any_sound (w := w.drew) (env0 := aenv lv (andL m u) env) (m := m) (u := u) (f := f) ((hap rfl).imp (fun h => h) fun h => h.1) ⟨hnc, hlv rfl⟩ hΓ hcall (hok rfl) ops.size _ (by simp) ?_ hG hF (by rw [rem_all]; simp) (by rw [rem_all]; exact h) hI' (hrel.mono hE) hd (hQ.step hE (below_drew w B0))
    intro i o ho hl
    exfalso
    have hlt := (Array.getElem?_eq_some_iff.1 ho).1
    simp [Array.getD_eq_getD_getElem?, hlt] at hl
end
end Go.Ev
end
section
set_option linter.unusedVariables false
set_option linter.unusedSimpArgs false
set_option linter.unusedSectionVars false
namespace Go.Ev
open Go.RowKit

/-- The regions whose order is open may be run in any order. -/
def codeOk (ms : Masks) (G : List FuncId) : Code → Bool
  | .region id ops draw => !draw || drawOk (ncOf ms id) G (maskOf ms (3000000 + id)) (maskOf ms (4000000 + id)) (maskOf ms (5000000 + id)) ops
  | .seq a b | .cond _ a b => codeOk ms G a && codeOk ms G b
  | .block _ a | .loop a => codeOk ms G a
  | _ => true
def exitOf : X → Exit
  | .normal => .normal
  | .exit i => .exit i
  | .ret => .ret

section
variable {P : Program} {B0 : Nat} {Γ : Specs} {call : Caller} {L : Nat} {ms : Masks} {lv : Nat}

theorem mask_rel {S : Nat → Prop} {σ : Sig} {st : Store} {w : World} : ∀ {m : List Bool} {env : List V} (i : Nat), V.get (mask m env) i = V.get env i ∨ V.get (mask m env) i = .und
  | [], env, i => by simp [mask]
  | _ :: _, [], i => by simp [mask, V.get]
  | true :: m, v :: vs, i => by
    cases i with
    | zero => exact .inl rfl
    | succ i => exact mask_rel (S := S) (σ := σ) (st := st) (w := w) i
  | false :: m, v :: vs, i => by
    cases i with
    | zero => exact .inr rfl
    | succ i => exact mask_rel (S := S) (σ := σ) (st := st) (w := w) i
theorem mask_length : ∀ (m : List Bool) (env : List V), (mask m env).length = env.length
  | [], env => by simp [mask]
  | _ :: _, [] => by simp [mask]
  | true :: m, v :: vs => by simp [mask, mask_length m vs]
  | false :: m, v :: vs => by simp [mask, mask_length m vs]
theorem EnvRel.mask {S : Nat → Prop} {σ : Sig} {st : Store} {w : World} {env : List V} {tmps : Array Value} (h : EnvRel P S σ st w env tmps) (m : List Bool) : EnvRel P S σ st w (Ev.mask m env) tmps := by
  refine ⟨by rw [mask_length]; exact h.1, fun i => ?_⟩
  rcases mask_rel (S := S) (σ := σ) (st := st) (w := w) (m := m) (env := env) i with hi | hi
  · rw [hi]; exact h.2 i
  · rw [hi]; exact und_rel _

/-- What a run of code comes to, in the model. -/
def RunOk (P : Program) (B0 : Nat) (f : Run) (arr : (Exit → Act → World → Prop) → Act → World → Prop) : Prop :=
  ∀ (env : List V) (st : Store) (x : X) (env' : List V) (st' : Store), f env st = some (x, env', st') → ∀ (S : Nat → Prop) (σ : Sig) (w : World) (a : Act) (Q : Exit → Act → World → Prop), Inv P B0 S σ st w → EnvRel P S σ st w env a.tmps → a.defers = [] →
    Cont P B0 S σ st w env' st' (Q (exitOf x)) → arr Q a w

theorem seqR_inv {o : Out} {k : Run} {x : X} {env' : List V} {st' : Store} (h : seqR o k = some (x, env', st')) : (∃ e s, o = some (.normal, e, s) ∧ k e s = some (x, env', st')) ∨ (x ≠ .normal ∧ o = some (x, env', st')) := by
  cases o with
  | none => cases h
  | some q =>
    obtain ⟨y, e, s⟩ := q
    cases y with
    | normal => exact .inl ⟨e, s, rfl, h⟩
    | exit i => cases h; exact .inr ⟨by simp, rfl⟩
    | ret => cases h; exact .inr ⟨by simp, rfl⟩

def RoundArr (P : Program) (c : Code) (Q : Exit → Act → World → Prop) (a : Act) (w : World) : Prop :=
  ∀ (b : Frame) (k : List Item) (cs : List Frame), ∃ e a' w', Q e a' w' ∧ Arrives P (lone (b.at a (.code c :: .inLoop c :: k)) cs w) b k cs e a' w'
theorem wp_of_round {c : Code} {Q : Exit → Act → World → Prop} {a : Act} {w : World} (h : RoundArr P c Q a w) : (Code.loop c).wp P Q a w :=
  fun b k cs => let ⟨e, a', w', q, r⟩ := h b k cs; ⟨e, a', w', q, .of_steps (.one step_loop) r⟩
theorem round_of {c : Code} {Q : Exit → Act → World → Prop} {a : Act} {w : World} (h : c.wp P (Exit.then (RoundArr P c Q) Q) a w) : RoundArr P c Q a w := by
  intro b k cs
  obtain ⟨e, a₁, w₁, hq, harr⟩ := h b (.inLoop c :: k) cs
  cases e with
  | normal =>
    obtain ⟨e₂, a₂, w₂, hq₂, harr₂⟩ := hq b k cs
    exact ⟨e₂, a₂, w₂, hq₂, .of_steps (Steps.trans harr (.one step_inLoop)) harr₂⟩
  | exit id => exact ⟨_, a₁, w₁, hq, .pass (x := .inLoop c) rfl (fun _ _ => .inl (by simp)) harr⟩
  | goto l => exact ⟨_, a₁, w₁, hq, .pass (x := .inLoop c) rfl (fun _ _ => .inl (by simp)) harr⟩
  | ret => exact ⟨_, a₁, w₁, hq, .pass (x := .inLoop c) rfl (fun _ _ => .inl (by simp)) harr⟩
  | panic ch => exact ⟨_, a₁, w₁, hq, .pass (x := .inLoop c) rfl (fun _ _ => .inl (by simp)) harr⟩
  | outgrown => exact ⟨_, a₁, w₁, hq, .pass (x := .inLoop c) rfl (fun _ _ => .inl (by simp)) harr⟩

theorem iter_sound {f : Run} {m : List Bool} {c : Code} (hf : RunOk P B0 f fun Q a w => c.wp P Q a w) : ∀ n, RunOk P B0 (iter f m n) fun Q a w => RoundArr P c Q a w
  | 0 => by intro env st x env' st' h; cases h
  | n + 1 => by
    intro env st x env' st' h S σ w a Q hI hrel hd hQ
    simp only [iter] at h
    refine round_of ?_
    rcases seqR_inv h with ⟨e, s, h1, h2⟩ | ⟨hx, h1⟩
    · refine hf _ st .normal e s h1 S σ w a _ hI (hrel.mask m) hd ?_
      intro S' σ' w' a' q1 q2 q3 q4 q5
      exact iter_sound hf n e s x env' st' h2 S' σ' w' a' Q q1 q4 q5 (hQ.step q2 q3)
    · refine hf _ st x env' st' h1 S σ w a _ hI (hrel.mask m) hd ?_
      intro S' σ' w' a' q1 q2 q3 q4 q5
      have := hQ S' σ' w' a' q1 q2 q3 q4 q5
      cases x <;> first | exact absurd rfl hx | exact this

theorem kill_one {S : Nat → Prop} {σ : Sig} {st : Store} {w : World} (hI : Inv P B0 S σ st w) (k : Key) : Inv P B0 S σ (killAt st k) w ∧ Evo B0 S σ st w S σ (killAt st k) w := by
  have hne : ∀ j, (killAt st k j).live = true → killAt st k j = st j := by
    intro j hl
    unfold killAt upd at hl ⊢
    generalize keq j k = q at hl ⊢
    cases q
    · rfl
    · exact absurd hl (by simp)
  have hE : Evo B0 S σ st w S σ (killAt st k) w := by
    refine ⟨Nat.le_refl _, fun _ h => .inl h, fun _ h => h, fun _ _ => rfl, fun j => ?_, fun j _ hl => ?_⟩
    · unfold killAt upd
      cases h : keq j k
      · exact Nat.le_refl _
      · have : j = k := by unfold keq at h; simp only [Bool.and_eq_true, beq_iff_eq] at h; exact Prod.ext h.1 h.2
        subst this; exact Nat.le_refl _
    · have := hne j hl
      rw [this] at hl
      exact ⟨hl, rfl, by rw [this]⟩
  refine ⟨⟨hI.base, hI.safe, fun j hl => ?_, fun j j' h1 h2 => ?_⟩, hE⟩
  · have h0 := hne j hl
    have hl' := hl
    rw [h0] at hl'
    obtain ⟨a, b⟩ := hI.own j hl'
    refine ⟨by rw [h0]; exact a, fun x c hs => ?_⟩
    obtain ⟨g1, g2, g3, o, g4, g5⟩ := b x c hs
    exact ⟨g1, g2, g3, o, g4, by rw [h0]; exact Holds.mono hE g5⟩
  · exact hI.inj j j' (by rw [← hne j h1]; exact h1) (by rw [← hne j' h2]; exact h2)
theorem kill_list {S : Nat → Prop} {σ : Sig} {w : World} : ∀ (m : List Bool) (i : Nat) (st : Store), Inv P B0 S σ st w → Inv P B0 S σ (killL lv m i st) w ∧ Evo B0 S σ st w S σ (killL lv m i st) w
  | [], i, st, hI => ⟨hI, Evo.refl ..⟩
  | false :: m, i, st, hI => kill_list m (i + 1) st hI
  | true :: m, i, st, hI => by
    obtain ⟨h1, h2⟩ := kill_one hI (lv, i)
    obtain ⟨h3, h4⟩ := kill_list m (i + 1) _ h1
    exact ⟨h3, h2.trans h4⟩
theorem kill_spec {lv : Nat} : ∀ (K : List Bool) (i : Nat) (st : Store) (j : Key), (killL lv K i st j).ver = (st j).ver ∧ (killL lv K i st j).e = (st j).e ∧ (killL lv K i st j).vs = (st j).vs ∧ ((killL lv K i st j).live = true → (st j).live = true ∧ ¬ (j.1 = lv ∧ i ≤ j.2 ∧ K.getD (j.2 - i) false = true))
  | [], i, st, j => ⟨rfl, rfl, rfl, fun h => ⟨h, fun q => by simp at q⟩⟩
  | false :: K, i, st, j => by
    obtain ⟨h1, h2, h3, h4⟩ := kill_spec K (i + 1) st j
    refine ⟨h1, h2, h3, fun h => ⟨(h4 h).1, fun q => (h4 h).2 ?_⟩⟩
    obtain ⟨q1, q2, q3⟩ := q
    rcases Nat.eq_or_lt_of_le q2 with e | e
    · rw [← e] at q3; simp at q3
    · refine ⟨q1, e, ?_⟩
      have : j.2 - i = (j.2 - (i + 1)) + 1 := by omega
      rw [this] at q3; simpa using q3
  | true :: K, i, st, j => by
    obtain ⟨h1, h2, h3, h4⟩ := kill_spec K (i + 1) (killAt st (lv, i)) j
    have hk : (killAt st (lv, i) j).ver = (st j).ver ∧ (killAt st (lv, i) j).e = (st j).e ∧ (killAt st (lv, i) j).vs = (st j).vs ∧ ((killAt st (lv, i) j).live = true → (st j).live = true ∧ j ≠ (lv, i)) := by
      unfold killAt upd
      cases hq : keq j (lv, i)
      · refine ⟨rfl, rfl, rfl, fun h => ⟨h, fun e => ?_⟩⟩
        subst e
        unfold keq at hq
        simp at hq
      · have : j = (lv, i) := by unfold keq at hq; simp only [Bool.and_eq_true, beq_iff_eq] at hq; exact Prod.ext hq.1 hq.2
        subst this
        exact ⟨rfl, rfl, rfl, fun h => by cases h⟩
    obtain ⟨g1, g2, g3, g4⟩ := hk
    refine ⟨h1.trans g1, h2.trans g2, h3.trans g3, fun h => ⟨(g4 (h4 h).1).1, fun q => ?_⟩⟩
    obtain ⟨q1, q2, q3⟩ := q
    rcases Nat.eq_or_lt_of_le q2 with e | e
    · exact (g4 (h4 h).1).2 (Prod.ext q1 e.symm)
    · refine (h4 h).2 ⟨q1, e, ?_⟩
      have : j.2 - i = (j.2 - (i + 1)) + 1 := by omega
      rw [this] at q3; simpa using q3
/-- A store in which some rows were turned to data. -/
def Frz (lv : Nat) (K : List Bool) (st0 st : Store) : Prop := ∀ j, (st j).ver = (st0 j).ver ∧ (st j).e = (st0 j).e ∧ (st j).live = (st0 j).live ∧ ((st j).vs = (st0 j).vs ∨ (keyIn lv K j = false ∧ refsIn.refsIns lv K (st0 j).vs = true ∧ ∃ ds, V.view.views st0 (st0 j).vs = some ds ∧ ((st j).vs = ds.map V.d ∨ (st j).vs = keepL (st0 j).vs ds)))
theorem frzK_spec {kp : Bool} {lv : Nat} {K : List Bool} {st0 st st' : Store} {k : Key} (h : frzK kp st0 st lv K k = some st') (hF : Frz lv K st0 st) : Frz lv K st0 st' := by
  unfold frzK at h
  split at h
  · rename_i hc
    split at h
    · rename_i ds hv
      cases h
      intro j
      unfold upd
      cases hq : keq j k
      · exact hF j
      · have : j = k := by unfold keq at hq; simp only [Bool.and_eq_true, beq_iff_eq] at hq; exact Prod.ext hq.1 hq.2
        subst this
        exact ⟨rfl, rfl, hc.1.symm, .inr ⟨hc.2.1, hc.2.2, ds, hv, by cases kp; exact .inl rfl; exact .inr rfl⟩⟩
    · cases h
  · cases h
theorem frzL_spec {kp : Bool} {lv : Nat} {K : List Bool} {st0 : Store} : ∀ {m : List Bool} {vs : List V} {st st' : Store}, frzL kp st0 lv K m vs st = some st' → Frz lv K st0 st → Frz lv K st0 st'
  | true :: m, v :: vs, st, st', h, hF => by
    simp only [frzL] at h
    split at h
    · rename_i s1 h1
      refine frzL_spec h ?_
      unfold frzT at h1
      split at h1
      · cases h1; exact hF
      · split at h1
        · exact frzK_spec h1 hF
        · cases h1
      · split at h1
        · exact frzK_spec h1 hF
        · cases h1
      · cases h1
    · cases h
  | false :: m, _ :: vs, st, st', h, hF => frzL_spec (m := m) (vs := vs) (by simpa [frzL] using h) hF
  | [], vs, st, st', h, hF => by simp [frzL] at h; subst h; exact hF
  | true :: _, [], st, st', h, hF => by simp [frzL] at h; subst h; exact hF
  | false :: _, [], st, st', h, hF => by simp [frzL] at h; subst h; exact hF
section frz
variable {S S' : Nat → Prop} {σ : Sig} {st : Store} {w : World} {K : List Bool}
mutual
theorem view_relK (hI : Inv P B0 S σ st w) (hS : ∀ b, S b → S' b) (hK : ∀ j b c, keyIn lv K j = true → (st j).live = true → σ j = .some (b, c) → S' b) : ∀ (v : V) (x : D) (cs : List Value), V.view st v = some x → refsIn lv K v = true → RelC P S σ st w v cs → Fl P S' w x cs
  | .d y, x, cs, h, _, hr => by simp [V.view] at h; subst h; exact Fl.mono hS (fun _ _ => rfl) _ _ hr
  | .agg t vs, x, cs, h, hk, hr => by
    simp only [V.view, Option.map_eq_some_iff] at h
    obtain ⟨ds, h1, rfl⟩ := h
    obtain ⟨css, g1, g2, g3⟩ := hr
    exact ⟨css, g1, g2, views_relK hI hS hK vs ds css h1 hk g3⟩
  | .nils e, x, cs, h, _, hr => by
    simp [V.view] at h; subst h
    exact ⟨_, 0, hr, .inl rfl⟩
  | .nila e, x, cs, h, _, hr => by
    simp [V.view] at h; subst h
    obtain ⟨A, rfl⟩ := hr
    exact ⟨A, 0, rfl, .inl rfl⟩
  | .rs er k ver off len full, x, cs, h, hk, hr => by
    simp only [V.view] at h
    split at h
    · rename_i e vs he
      simp only [Option.map_eq_some_iff] at h
      obtain ⟨ds, h1, rfl⟩ := h
      obtain ⟨A, c, rfl, hc⟩ := hr
      have hx : RelV P S σ st w (.rs er k ver off len full) (.slice A len c) := RelC.to_v ⟨A, c, rfl, hc⟩ rfl
      obtain ⟨A', c', css, q1, q2, q3, q4⟩ := elems_ok he hI hx
      have hl := rels_length q2
      simp only [Value.slice.injEq] at q1
      obtain ⟨rfl, hlen, rfl⟩ := q1
      have hf := toDs_rel vs ds css h1 q2
      have hdl := fls_length hf
      refine ⟨A, c, by rw [hlen, ← hl, hdl], ?_⟩
      rcases q4 with q4 | ⟨a, rfl, hcell⟩
      · left
        exact List.eq_nil_of_length_eq_zero (by rw [← hdl, hl, q4]; rfl)
      · by_cases hd : ds = []
        · exact .inl hd
        · right
          have hlc := hc.1
          have hdpos : 0 < ds.length := List.length_pos_iff.2 hd
          obtain ⟨hv1, hv2, hle⟩ : (st k).ver = ver ∧ (st k).live = true ∧ off + len ≤ (st k).vs.length := by
            simp only [elemsOf] at he
            split at he
            · assumption
            · cases he
          obtain ⟨g0, gp, g1, g2⟩ := hc.2.2.2 hv1.symm hv2
          obtain ⟨hn, hsm⟩ := (hI.own k hv2).row (by rw [g0]; exact gp)
          cases hσ : σ k with
          | none => have := (g1 hσ).2; omega
          | some bc =>
            obtain ⟨b, cap⟩ := bc
            obtain ⟨p1, p2, p3⟩ := g2 b cap hσ
            obtain ⟨f1, f2, f3, cur, cssk, f4, f5, f6, f7, f8, f9, f10⟩ := hsm b cap hσ
            rcases p1 with p1 | p1
            · omega
            · cases p1
              refine ⟨b, off * szOf P (st k).e, css, rfl, hK k b cap hk hv2 hσ, by omega, q3, ?_, Fl.monos hS (fun _ _ => rfl) _ _ hf⟩
              refine ⟨cur, (st k).e, (0, 0), f4, fun j hj => ?_⟩
              have := hcell j _ (List.getElem?_eq_getElem hj)
              rw [add_none, cell_of_row w b _ cur _ _ f4] at this
              rw [this, List.getElem?_eq_getElem hj]
    · cases h
  | .p .., _, _, h, _, _ | .nilm, _, _, h, _, _ | .mp .., _, _, h, _, _ | .fn .., _, _, h, _, _ | .tup _, _, _, h, _, _ | .und, _, _, h, _, _ | .jk, _, _, h, _, _ => by simp [V.view] at h
theorem views_relK (hI : Inv P B0 S σ st w) (hS : ∀ b, S b → S' b) (hK : ∀ j b c, keyIn lv K j = true → (st j).live = true → σ j = .some (b, c) → S' b) : ∀ (vs : List V) (ds : List D) (css : List (List Value)), V.view.views st vs = some ds → refsIn.refsIns lv K vs = true → RelC.rels P S σ st w vs css → Fl.fls P S' w ds css
  | [], ds, css, h, _, hr => by simp [V.view.views] at h; subst h; exact hr
  | v :: vs, ds, css, h, hk, hr => by
    simp only [V.view.views] at h
    simp only [refsIn.refsIns, Bool.and_eq_true] at hk
    split at h
    · rename_i x xs h1 h2
      cases h
      obtain ⟨c, r, rfl, g2, g3⟩ := hr
      exact ⟨c, r, rfl, view_relK hI hS hK v x c h1 hk.1 g2, views_relK hI hS hK vs xs r h2 hk.2 g3⟩
    · cases h
end
theorem rels_of_fls {σ' : Sig} {st' : Store} : ∀ {ds : List D} {css : List (List Value)}, Fl.fls P S' w ds css → RelC.rels P S' σ' st' w (ds.map V.d) css
  | [], _, h => h
  | d :: ds, _, h => by
    obtain ⟨c, r, rfl, h2, h3⟩ := h
    exact ⟨c, r, rfl, h2, rels_of_fls h3⟩
theorem keep_length : ∀ {vs : List V} {ds : List D}, ds.length = vs.length → (keepL vs ds).length = vs.length
  | [], ds, h => by cases ds <;> simp_all [keepL]
  | v :: vs, [], h => by simp at h
  | v :: vs, d :: ds, h => by
    have ih := keep_length (vs := vs) (ds := ds) (by simpa using h)
    cases v <;> simp [keepL, ih]
theorem keep_cons {v : V} {vs : List V} {d : D} {ds : List D} : keepL (v :: vs) (d :: ds) = (match v with | .nils e => V.nils e | _ => .d d) :: keepL vs ds := by cases v <;> rfl
theorem rels_keep {σ' : Sig} {st' : Store} : ∀ {vs : List V} {ds : List D} {css : List (List Value)}, RelC.rels P S σ st w vs css → Fl.fls P S' w ds css → RelC.rels P S' σ' st' w (keepL vs ds) css
  | [], [], _, h, _ => h
  | [], d :: ds, css, h, h2 => by
    have e : css = [] := h
    subst e
    obtain ⟨c, r, h3, _⟩ := h2
    cases h3
  | v :: vs, [], css, h, h2 => by
    have e : css = [] := h2
    subst e
    obtain ⟨c, r, h3, _⟩ := h
    cases h3
  | v :: vs, d :: ds, css, h, h2 => by
    obtain ⟨c, r, rfl, g2, g3⟩ := h
    obtain ⟨c', r', e, k2, k3⟩ := h2
    injection e with e1 e2
    subst e1; subst e2
    have ih := rels_keep (σ' := σ') (st' := st') g3 k3
    rw [keep_cons]
    cases v with
    | nils e => exact ⟨c, r, rfl, g2, ih⟩
    | _ => exact ⟨c, r, rfl, k2, ih⟩
theorem maprel_keep {σ' : Sig} {st' : Store} : ∀ {vs : List V} {ds : List D} {es : List MapEntry}, MapRel P S σ st w vs es → MapRel P S' σ' st' w (ds.map V.d) es → ds.length = vs.length → MapRel P S' σ' st' w (keepL vs ds) es
  | [], [], es, h, h2, _ => h2
  | [], d :: ds, es, h, h2, hl => by simp at hl
  | v :: vs, [], es, h, h2, hl => by simp at hl
  | [v], [d], es, h, h2, _ => h.elim
  | [v], d :: d' :: ds, es, h, h2, hl => by simp at hl
  | v :: v' :: vs, [d], es, h, h2, hl => by simp at hl
  | k :: v :: vs, x :: y :: ds, es, h, h2, hl => by
    obtain ⟨e, q, rfl, r1, r2, r3⟩ := h
    obtain ⟨e', q', e1, s1, s2, s3⟩ := h2
    injection e1 with e1 e2
    subst e1; subst e2
    have ih := maprel_keep (σ' := σ') (st' := st') r3 s3 (by simpa using hl)
    rw [keep_cons, keep_cons]
    refine ⟨e, q, rfl, ?_, ?_, ih⟩
    · cases k with
      | nils e => exact r1
      | _ => exact s1
    · cases v with
      | nils e => exact r2
      | _ => exact s2
theorem maprel_frz {σ' : Sig} {st' : Store} (hI : Inv P B0 S σ st w) (hS : ∀ b, S b → S' b) (hK : ∀ j b c, keyIn lv K j = true → (st j).live = true → σ j = .some (b, c) → S' b) : ∀ {vs : List V} {ds : List D} {es : List MapEntry}, V.view.views st vs = some ds → refsIn.refsIns lv K vs = true → MapRel P S σ st w vs es → MapRel P S' σ' st' w (ds.map V.d) es
  | [], ds, es, h, _, hr => by simp [V.view.views] at h; subst h; exact hr
  | [v], ds, es, h, _, hr => hr.elim
  | k :: v :: vs, ds, es, h, hk, hr => by
    simp only [V.view.views] at h
    simp only [refsIn.refsIns, Bool.and_eq_true] at hk
    split at h
    · rename_i x xs h1 h2
      cases h
      split at h2
      · rename_i y ys h3 h4
        cases h2
        obtain ⟨e, q, rfl, r1, r2, r3⟩ := hr
        exact ⟨e, q, rfl, relN_of_fl r1 h1 fun cs hc => view_relK hI hS hK k x cs h1 hk.1 hc, relN_of_fl r2 h3 fun cs hc => view_relK hI hS hK v y cs h3 hk.2.1 hc, maprel_frz hI hS hK h4 hk.2.2 r3⟩
      · cases h2
    · cases h
theorem views_length : ∀ {vs : List V} {ds : List D}, V.view.views st vs = some ds → ds.length = vs.length
  | [], ds, h => by simp [V.view.views] at h; subst h; rfl
  | v :: vs, ds, h => by
    simp only [V.view.views] at h
    split at h
    · rename_i x xs h1 h2
      cases h
      simp [views_length h2]
    · cases h
theorem frz_sound {st1 : Store} (hI : Inv P B0 S σ st w) (hF : Frz lv K st st1) : ∃ S', Inv P B0 S' σ (killL lv K 0 st1) w ∧ Evo B0 S σ st w S' σ (killL lv K 0 st1) w := by
  refine ⟨fun b => S b ∨ ∃ j c, keyIn lv K j = true ∧ (st j).live = true ∧ σ j = .some (b, c), ?_⟩
  have hS : ∀ b, S b → (S b ∨ ∃ j c, keyIn lv K j = true ∧ (st j).live = true ∧ σ j = .some (b, c)) := fun b h => .inl h
  have hK : ∀ j b c, keyIn lv K j = true → (st j).live = true → σ j = .some (b, c) → (S b ∨ ∃ j c, keyIn lv K j = true ∧ (st j).live = true ∧ σ j = .some (b, c)) := fun j b c h1 h2 h3 => .inr ⟨j, c, h1, h2, h3⟩
  have hlive : ∀ j, (killL lv K 0 st1 j).live = true → (st j).live = true ∧ keyIn lv K j = false := by
    intro j h
    obtain ⟨_, _, _, h4⟩ := kill_spec K 0 st1 j
    obtain ⟨g1, g2⟩ := h4 h
    refine ⟨by rw [← (hF j).2.2.1]; exact g1, ?_⟩
    cases hq : keyIn lv K j
    · rfl
    · unfold keyIn at hq
      simp only [Bool.and_eq_true, beq_iff_eq] at hq
      exact absurd ⟨hq.1, Nat.zero_le _, by simpa using hq.2⟩ g2
  have hfld : ∀ j, (killL lv K 0 st1 j).ver = (st j).ver ∧ (killL lv K 0 st1 j).e = (st j).e ∧ (killL lv K 0 st1 j).vs = (st1 j).vs := by
    intro j
    obtain ⟨h1, h2, h3, _⟩ := kill_spec K 0 st1 j
    exact ⟨h1.trans (hF j).1, h2.trans (hF j).2.1, h3⟩
  have hE : Evo B0 S σ st w (fun b => S b ∨ ∃ j c, keyIn lv K j = true ∧ (st j).live = true ∧ σ j = .some (b, c)) σ (killL lv K 0 st1) w := by
    refine ⟨Nat.le_refl _, fun b h => ?_, hS, fun _ _ => rfl, fun j => by rw [(hfld j).1]; exact Nat.le_refl _, fun j _ hl => ⟨(hlive j hl).1, rfl, (hfld j).2.1⟩⟩
    rcases h with h | ⟨j, c, h1, h2, h3⟩
    · exact .inl h
    · exact .inr ((hI.own j h2).some b c h3).1
  refine ⟨⟨hI.base, fun b h => ?_, fun j hl => ?_, fun j j' h1 h2 => hI.inj j j' (hlive j h1).1 (hlive j' h2).1⟩, hE⟩
  · rcases h with h | ⟨j, c, h1, h2, h3⟩
    · exact hI.safe b h
    · exact ((hI.own j h2).some b c h3).2.1
  · obtain ⟨l0, l1⟩ := hlive j hl
    obtain ⟨a, o⟩ := hI.own j l0
    obtain ⟨f1, f2, f3⟩ := hfld j
    refine ⟨fun hn => ?_, fun b cap hs => ?_⟩
    · obtain ⟨a1, a2⟩ := a hn
      refine ⟨?_, by rw [f2]; exact a2⟩
      rw [f3]
      rcases (hF j).2.2.2 with q | ⟨_, _, ds, q1, q2⟩
      · rw [q]; exact a1
      · rw [a1] at q1
        simp [V.view.views] at q1
        rcases q2 with q2 | q2
        · rw [q2, q1]; rfl
        · rw [q2, a1]; rfl
    · obtain ⟨g1, g2, g3, ob, g4, g5⟩ := o b cap hs
      refine ⟨g1, g2, fun h => ?_, ob, g4, ?_⟩
      · rcases h with h | ⟨j', c, h1, h2, h3⟩
        · exact g3 h
        · refine hI.inj j j' l0 h2 (fun e => ?_) b cap b c hs h3 rfl
          subst e
          rw [l1] at h1; cases h1
      · rcases (hF j).2.2.2 with q | ⟨q0, qr, ds, q1, q2⟩
        · have := Holds.mono hE g5
          unfold Holds at this ⊢
          rw [f2, f3, q]
          exact this
        · unfold Holds at g5 ⊢
          rw [f2, f3]
          have hlen := views_length q1
          have hl2 : (st1 j).vs.length = (st j).vs.length := by rcases q2 with q2 | q2 <;> rw [q2]; exact (List.length_map _).trans hlen; exact keep_length hlen
          rcases g5 with ⟨p0, cur, css, p1, p2, p3, p4, p5, p6, p7⟩ | ⟨p0, es, cl, p1, p2, pst⟩
          · refine .inl ⟨p0, cur, css, p1, p2, by rw [hl2]; exact p3, p4, by rw [hl2]; exact p5, p6, ?_⟩
            have hfl := views_relK hI hS hK _ _ _ q1 qr p7
            rcases q2 with q2 | q2 <;> rw [q2]
            · exact rels_of_fls hfl
            · exact rels_keep p7 hfl
          · have hmf := maprel_frz (σ' := σ) (st' := killL lv K 0 st1) hI hS hK q1 qr p2
            refine .inr ⟨p0, es, cl, p1, ?_, pst⟩
            rcases q2 with q2 | q2 <;> rw [q2]
            · exact hmf
            · exact maprel_keep p2 hmf hlen
end frz
theorem frzF_sound {f : Run} {arr : (Exit → Act → World → Prop) → Act → World → Prop} {i : Nat} (hf : RunOk P B0 f arr) : RunOk P B0 (frzF ms lv i f) arr := by
  unfold frzF
  split
  · exact hf
  · rename_i m hm
    intro env st x env' st' h S σ w a Q hI hrel hd hQ
    cases hq : f env st with
    | none => simp only [hq, frzO] at h; cases h
    | some r =>
      obtain ⟨y, e, s⟩ := r
      simp only [hq] at h
      cases y with
      | exit j => simp only [frzO, Option.some.injEq, Prod.mk.injEq] at h; obtain ⟨rfl, rfl, rfl⟩ := h; exact hf env st _ _ _ hq S σ w a Q hI hrel hd hQ
      | ret => simp only [frzO, Option.some.injEq, Prod.mk.injEq] at h; obtain ⟨rfl, rfl, rfl⟩ := h; exact hf env st _ _ _ hq S σ w a Q hI hrel hd hQ
      | normal =>
        simp only [frzO] at h
        split at h
        · rename_i s' hs
          simp only [Option.some.injEq, Prod.mk.injEq] at h
          obtain ⟨rfl, rfl, rfl⟩ := h
          refine hf env st _ _ _ hq S σ w a Q hI hrel hd ?_
          intro S1 σ1 w1 a1 q1 q2 q3 q4 q5
          obtain ⟨S2, r1, r2⟩ := frz_sound (lv := lv) q1 (frzL_spec hs fun j => ⟨rfl, rfl, rfl, .inl rfl⟩)
          exact hQ S2 σ1 w1 a1 r1 (q2.trans r2) q3 (q4.mono r2) q5
        · cases h
theorem code_sound (hm : P.follows .mixedOrders = true) (hΓ : ∀ g s, look Γ g = some s → SpecOk P g s) (hcall : CallerOk P call) : ∀ (c : Code) (i : Nat), codeOk ms (Γ.map (·.1)) c = true → RunOk P B0 (evC P Γ call L ms lv i c) fun Q a w => c.wp P Q a w
  | .skip, i, _ => by
    intro env st x env' st' h S σ w a Q hI hrel hd hQ
    simp only [evC, Option.some.injEq, Prod.mk.injEq] at h
    obtain ⟨rfl, rfl, rfl⟩ := h
    exact wp_skip (hQ S σ w a hI (Evo.refl ..) (Below.refl _ _) hrel hd)
  | .label l, i, _ => by
    intro env st x env' st' h S σ w a Q hI hrel hd hQ
    simp only [evC, Option.some.injEq, Prod.mk.injEq] at h
    obtain ⟨rfl, rfl, rfl⟩ := h
    exact wp_label (hQ S σ w a hI (Evo.refl ..) (Below.refl _ _) hrel hd)
  | .ret, i, _ => by
    intro env st x env' st' h S σ w a Q hI hrel hd hQ
    simp only [evC, Option.some.injEq, Prod.mk.injEq] at h
    obtain ⟨rfl, rfl, rfl⟩ := h
    exact wp_ret (hQ S σ w a hI (Evo.refl ..) (Below.refl _ _) (hrel.mask _) hd)
  | .exit id, i, _ => by
    intro env st x env' st' h S σ w a Q hI hrel hd hQ
    simp only [evC, Option.some.injEq, Prod.mk.injEq] at h
    obtain ⟨rfl, rfl, rfl⟩ := h
    exact wp_exit (hQ S σ w a hI (Evo.refl ..) (Below.refl _ _) (hrel.mask _) hd)
  | .region id ops draw, i, hok => by
    intro env st x env' st' h S σ w a Q hI hrel hd hQ
    simp only [evC] at h
    suffices key : ∀ st : Store, normR (bif draw then drawR ms id lv env st (evOps P Γ (callOf ms id call) lv ops.toList ops.toList env st) else evOps P Γ call lv ops.toList ops.toList env st) = some (x, env', st') → Inv P B0 S σ st w → EnvRel P S σ st w env a.tmps → Cont P B0 S σ st w env' st' (Q (exitOf x)) → (Code.region id ops draw).wp P Q a w by
      cases draw with
      | false => exact key st h hI hrel hQ
      | true =>
        obtain ⟨h1, h2⟩ := kill_list (lv := lv) (maskOf ms (5000000 + id)) 0 st hI
        exact key _ h h1 (hrel.mono h2) (hQ.step h2 (Below.refl _ _))
    clear h hI hrel hQ st
    intro st h hI hrel hQ
    have hboth : draw = true → drawR ms id lv env st (evOps P Γ (callOf ms id call) lv ops.toList ops.toList env st) ≠ none → (maskOf ms (5000000 + id) = [] ∨ deadAll lv st (maskOf ms (5000000 + id)) 0 = true) ∧ (maskOf ms (3000000 + id) = [] ∨ (apartAll (sel (maskOf ms (3000000 + id)) (aenv lv (andL (maskOf ms (3000000 + id)) (maskOf ms (4000000 + id))) env)) = true ∧ freeAll (sel (maskOf ms (4000000 + id)) env) = true)) ∧ drawR ms id lv env st (evOps P Γ (callOf ms id call) lv ops.toList ops.toList env st) = evOps P Γ (callOf ms id call) lv ops.toList ops.toList env st := by
      intro _ hne
      have hA : drawA ms id lv env (evOps P Γ (callOf ms id call) lv ops.toList ops.toList env st) ≠ none → (maskOf ms (3000000 + id) = [] ∨ (apartAll (sel (maskOf ms (3000000 + id)) (aenv lv (andL (maskOf ms (3000000 + id)) (maskOf ms (4000000 + id))) env)) = true ∧ freeAll (sel (maskOf ms (4000000 + id)) env) = true)) ∧ drawA ms id lv env (evOps P Γ (callOf ms id call) lv ops.toList ops.toList env st) = evOps P Γ (callOf ms id call) lv ops.toList ops.toList env st := by
        intro hne
        unfold drawA at hne ⊢
        split
        · rename_i hm'; exact ⟨.inl hm', rfl⟩
        · rename_i hm'
          simp only [hm'] at hne
          split
          · rename_i hc; exact ⟨.inr hc, rfl⟩
          · rename_i hc
            rw [if_neg hc] at hne
            exact absurd rfl hne
      unfold drawR at hne ⊢
      by_cases hlv : lv < 1000000000000000000000000000000
      case neg => rw [if_neg hlv] at hne; exact absurd rfl hne
      rw [if_pos hlv] at hne ⊢
      split
      · rename_i hm'
        simp only [hm'] at hne
        exact ⟨.inl hm', hA hne⟩
      · rename_i hm'
        simp only [hm'] at hne
        split
        · rename_i hc
          rw [if_pos hc] at hne
          exact ⟨.inr hc, hA hne⟩
        · rename_i hc
          rw [if_neg hc] at hne
          exact absurd rfl hne
    have hne : draw = true → drawR ms id lv env st (evOps P Γ (callOf ms id call) lv ops.toList ops.toList env st) ≠ none := by
      rintro rfl hz
      simp only [cond_true] at h
      rw [hz] at h
      cases h
    have hlv : draw = true → lv < 1000000000000000000000000000000 := by
      intro hd
      have := hne hd
      unfold drawR at this
      by_cases hlv : lv < 1000000000000000000000000000000
      · exact hlv
      · rw [if_neg hlv] at this; exact absurd rfl this
    have hap := fun hd => (hboth hd (hne hd)).2.1
    have hfd := fun hd => (hboth hd (hne hd)).1
    replace h : normR (evOps P Γ (bif draw then callOf ms id call else call) lv ops.toList ops.toList env st) = some (x, env', st') := by
      cases draw with
      | false => exact h
      | true =>
        simp only [cond_true] at h ⊢
        rw [(hboth rfl (hne rfl)).2.2] at h
        exact h
    cases hq : evOps P Γ (bif draw then callOf ms id call else call) lv ops.toList ops.toList env st with
    | none => rw [hq] at h; cases h
    | some q =>
      obtain ⟨e, s⟩ := q
      rw [hq] at h
      simp only [normR, Option.some.injEq, Prod.mk.injEq] at h
      obtain ⟨rfl, rfl, rfl⟩ := h
      have hc2 : CallerOk P (bif draw then callOf ms id call else call) := by
        cases draw with
        | false => exact hcall
        | true =>
          show CallerOk P (callOf ms id call)
          unfold callOf
          cases ncOf ms id with
          | false => exact hcall
          | true => intro f xs lv st v st' h; cases h
      refine region_sound (nc := draw && ncOf ms id) hap hfd hlv ?_ hm hΓ hc2 (fun hd => by simp only [codeOk, hd, Bool.not_true, Bool.false_or, Bool.true_and] at hok ⊢; exact hok) hq hI hrel hd hQ
      intro hnc
      simp only [Bool.and_eq_true] at hnc
      obtain ⟨rfl, h2⟩ := hnc
      simp only [cond_true, callOf, h2]
  | .seq c d, i, hok => by
    intro env st x env' st' h S σ w a Q hI hrel hd hQ
    simp only [codeOk, Bool.and_eq_true] at hok
    simp only [evC] at h
    refine wp_seq ?_
    rcases seqR_inv h with ⟨e, s, h1, h2⟩ | ⟨hx, h1⟩
    · refine code_sound hm hΓ hcall c i hok.1 env st .normal e s h1 S σ w a _ hI hrel hd ?_
      intro S' σ' w' a' q1 q2 q3 q4 q5
      exact code_sound hm hΓ hcall d i hok.2 e s x env' st' h2 S' σ' w' a' Q q1 q4 q5 (hQ.step q2 q3)
    · refine code_sound hm hΓ hcall c i hok.1 env st x env' st' h1 S σ w a _ hI hrel hd ?_
      intro S' σ' w' a' q1 q2 q3 q4 q5
      have := hQ S' σ' w' a' q1 q2 q3 q4 q5
      cases x <;> first | exact absurd rfl hx | exact this
  | .cond q c d, i, hok => by
    intro env st x env' st' h S σ w a Q hI hrel hd hQ
    simp only [codeOk, Bool.and_eq_true] at hok
    simp only [evC] at h
    split at h
    · rename_i b hb
      have hv := evalT_rel hrel 0 q
      rw [hb] at hv
      refine wp_cond (relV_bool hv) ?_
      cases b with
      | true =>
        simp only [if_true] at h ⊢
        exact code_sound hm hΓ hcall c i hok.1 env st x env' st' h S σ w a Q hI hrel hd hQ
      | false =>
        simp only [Bool.false_eq_true, if_false] at h ⊢
        exact code_sound hm hΓ hcall d i hok.2 env st x env' st' h S σ w a Q hI hrel hd hQ
    · cases h
  | .block id c, i, hok => by
    intro env st x env' st' h S σ w a Q hI hrel hd hQ
    simp only [codeOk] at hok
    simp only [evC] at h
    refine wp_block ?_
    cases hq : evC P Γ call L ms lv id c env st with
    | none => rw [hq] at h; cases h
    | some r =>
      obtain ⟨y, e, s⟩ := r
      rw [hq] at h
      refine code_sound hm hΓ hcall c id hok env st y e s hq S σ w a _ hI hrel hd ?_
      intro S' σ' w' a' q1 q2 q3 q4 q5
      cases y with
      | normal =>
        simp only [blkR, Option.some.injEq, Prod.mk.injEq] at h
        obtain ⟨rfl, rfl, rfl⟩ := h
        exact hQ S' σ' w' a' q1 q2 q3 q4 q5
      | ret =>
        simp only [blkR, Option.some.injEq, Prod.mk.injEq] at h
        obtain ⟨rfl, rfl, rfl⟩ := h
        exact hQ S' σ' w' a' q1 q2 q3 q4 q5
      | exit j =>
        simp only [blkR] at h
        simp only [exitOf, Exit.inBlock]
        split at h
        · rename_i hj
          simp only [Option.some.injEq, Prod.mk.injEq] at h
          obtain ⟨rfl, rfl, rfl⟩ := h
          rw [if_pos hj]
          exact hQ S' σ' w' a' q1 q2 q3 q4 q5
        · rename_i hj
          simp only [Option.some.injEq, Prod.mk.injEq] at h
          obtain ⟨rfl, rfl, rfl⟩ := h
          rw [if_neg hj]
          exact hQ S' σ' w' a' q1 q2 q3 q4 q5
  | .loop c, i, hok => by
    intro env st x env' st' h S σ w a Q hI hrel hd hQ
    simp only [evC, frzI] at h
    split at h
    · exact wp_of_round (iter_sound (frzF_sound (code_sound hm hΓ hcall c i (by simpa [codeOk] using hok))) L env st x env' st' h S σ w a Q hI hrel hd hQ)
    · split at h
      · rename_i s1 hs
        obtain ⟨S2, r1, r2⟩ := frz_sound (lv := lv) hI (frzL_spec hs fun j => ⟨rfl, rfl, rfl, .inl rfl⟩)
        refine wp_of_round (iter_sound (frzF_sound (code_sound hm hΓ hcall c i (by simpa [codeOk] using hok))) L env _ x env' st' h S2 σ w a Q r1 (hrel.mono r2) hd ?_)
        intro S1 σ1 w1 a1 q1 q2 q3 q4 q5
        exact hQ S1 σ1 w1 a1 q1 (r2.trans q2) q3 q4 q5
      · cases h
  | .rangeFunc .., _, _ => by intro env st x env' st' h; simp [evC] at h
  | .scope _, _, _ => by intro env st x env' st' h; simp [evC] at h
  | .goto _, _, _ => by intro env st x env' st' h; simp [evC] at h
  | .refuse _, _, _ => by intro env st x env' st' h; simp [evC] at h

/-! ### functions -/
/-- The table's functions are the program's. -/
def TableOk (P : Program) (G : List FuncId) (T : Table) : Prop :=
  ∀ f en, T f = some en → P.funcs[f]? = some en.fn ∧ (en.fn.name == "runtime.NumGoroutine") = false ∧ ∀ c, en.fn.body = some c → codeOk en.ms G c = true

theorem pad_length : ∀ (xs : List V) (n : Nat), (pad xs n).length = max xs.length n
  | [], 0 => rfl
  | [], n + 1 => by simp [pad, pad_length [] n]
  | x :: xs, 0 => by simp [pad]
  | x :: xs, n + 1 => by simp [pad, pad_length xs n]
theorem pad_get : ∀ (xs : List V) (n i : Nat), V.get (pad xs n) i = V.get xs i
  | [], 0, i => rfl
  | [], n + 1, i => by cases i <;> simp [pad, V.get, pad_get [] n]
  | x :: xs, 0, i => rfl
  | x :: xs, n + 1, i => by cases i <;> simp [pad, V.get, pad_get xs n]
theorem relNs_get {S : Nat → Prop} {σ : Sig} {st : Store} {w : World} : ∀ {xs : List V} {vals : List Value} (i : Nat), RelNs P S σ st w xs vals → RelV P S σ st w (V.get xs i) ((vals[i]?).getD undef)
  | [], _, i, h => by cases h; simp [V.get]; exact und_rel _
  | x :: xs, _, i, h => by
    obtain ⟨u, r, rfl, h2, h3⟩ := h
    cases i with
    | zero => simpa [V.get] using h2.to_v
    | succ i => simpa [V.get] using relNs_get i h3

/-- One result. -/
def resOne (tmps : Array Value) : ResultVar → Sem Value
  | .tmp t => pure (tmps.getD t undef)
  | .cell c t => do loadVar t (← asAddr (tmps.getD c undef))
theorem resV_sound {S : Nat → Prop} {σ : Sig} {st : Store} {w : World} {env : List V} {a : Act} (hI : Inv P B0 S σ st w) (hrel : EnvRel P S σ st w env a.tmps) : ∀ {rs : List ResultVar} {vs : List V}, resV P st env rs = some vs →
    ∃ vals, (rs.mapM (resOne a.tmps)).run P w = .ok vals w ∧ RelNs P S σ st w vs vals
  | [], vs, h => by simp only [resV, Option.some.injEq] at h; subst h; exact ⟨[], rfl, rfl⟩
  | .tmp t :: r, vs, h => by
    simp only [resV] at h
    split at h
    · rename_i us hus
      obtain ⟨vals, h1, h2⟩ := resV_sound hI hrel hus
      have hv := hrel.2 t
      have hc : (∀ ws, V.get env t ≠ .tup ws) ∧ vs = V.get env t :: us := by
        unfold consV at h
        split at h
        · cases h
        · rename_i hn
          cases h
          exact ⟨fun ws hw => hn ws hw, rfl⟩
      obtain ⟨hn, rfl⟩ := hc
      refine ⟨a.tmps.getD t undef :: vals, ?_, ⟨_, _, rfl, hv.n hn, h2⟩⟩
      rw [List.mapM_cons]
      simp only [resOne, Sem.run_bind, Sem.run_pure, Result.andThen_ok, h1]
    · cases h
  | .cell c t :: r, vs, h => by
    simp only [resV] at h
    have hv := hrel.2 c
    split at h
    · rename_i k ver i path hp
      rw [hp] at hv
      split at h
      · split at h
        · rename_i hc
          obtain ⟨rfl, hl⟩ := hc
          split at h
          · rename_i v us hnth hus
            split at h
            · rename_i ht
              cases h
              obtain ⟨vals, h1, h2⟩ := resV_sound hI hrel hus
              obtain ⟨A, hA, _, hfr⟩ := relV_p hv
              rw [nth_eq] at hnth
              have hgp : getPath v [] = some v := by cases v <;> rfl
              obtain ⟨val, g1, g2⟩ := load_ok hI hl hnth hgp ht (hfr rfl hl)
              refine ⟨val :: vals, ?_, ⟨val, vals, rfl, g2.n (hasT_tup ht), h2⟩⟩
              rw [List.mapM_cons]
              have h0 : (resOne a.tmps (.cell c t)).run P w = .ok val w := by
                simp only [resOne, Sem.run_bind, hA, asAddr, Sem.run_pure, Result.andThen_ok, g1]
              simp only [Sem.run_bind, h0, Result.andThen_ok, h1, Sem.run_pure]
            · cases h
          · cases h
        · cases h
      · cases h
    · cases h

theorem results_sound {S : Nat → Prop} {σ : Sig} {st : Store} {w : World} {env : List V} {a : Act} {fn : Func} {vs : List V} (hI : Inv P B0 S σ st w) (hrel : EnvRel P S σ st w env a.tmps) (h : resV P st env fn.results.toList = some vs) :
    ∃ val, (results fn a.tmps).run P w = .ok val w ∧ RelV P S σ st w (retV vs) val := by
  obtain ⟨vals, h1, h2⟩ := resV_sound hI hrel h
  have hl := relNs_length h2
  have hres : results fn a.tmps = (fn.results.mapM (resOne a.tmps) >>= fun vs => pure (if h : vs.size = 1 then vs[0] else .tuple vs)) := rfl
  have hrun := run_mapM_arr _ fn.results vals w h1
  rw [hres]
  simp only [Sem.run_bind, hrun, Result.andThen_ok]
  rcases ret_cases vs with ⟨v, rfl, hr⟩ | hr
  · obtain ⟨u, r, rfl, g2, g3⟩ := h2
    cases g3
    rw [hr]
    exact ⟨u, by simp, g2.to_v⟩
  · rw [hr]
    have hne : vals.toArray.size ≠ 1 := by
      intro he
      have : vs.length = 1 := by simpa [← hl] using he
      cases vs with
      | nil => simp at this
      | cons v r => cases r with
        | nil =>
          cases hv : v <;> rw [hv] at hr <;> first
            | (simp [retV] at hr; done)
            | skip
          all_goals
            obtain ⟨u, q, rfl, g2, g3⟩ := h2
            rw [hv] at g2
            rcases g2 with g2 | ⟨g2, _⟩ | ⟨_, g2⟩
            · cases g2
            · cases g2
            · exact g2.elim
        | cons u r => simp at this
    refine ⟨.tuple vals.toArray, ?_, vals, rfl, h2⟩
    simp only [dif_neg hne, Sem.run_pure]

theorem evF_sound {T : Table} (hm : P.follows .mixedOrders = true) (hΓ : ∀ g s, look Γ g = some s → SpecOk P g s) (hT : TableOk P (Γ.map (·.1)) T) : ∀ c, CallerOk P (evF P Γ T L c)
  | 0 => by intro f xs lv st v st' h; cases h
  | c + 1 => by
    intro f xs lv st v st' h B0 S σ w vals hI hx
    simp only [evF] at h
    split at h
    · rename_i en hen
      split at h
      · rename_i code hcode
        obtain ⟨t1, t2, t3⟩ := hT f en hen
        refine .inl ⟨en.fn, t1, t2, by rw [hcode]; rfl, ?_⟩
        refine calls_of_wp t1 hcode ?_
        cases hr : evC P Γ (evF P Γ T L c) L en.ms lv 0 code (pad xs en.fn.ntmps) st with
        | none => rw [hr] at h; cases h
        | some q =>
          obtain ⟨x, env', s⟩ := q
          rw [hr] at h
          have hout : x ≠ .normal → x = .ret ∨ ∃ i, x = .exit i := by cases x <;> simp
          have hres : (x = .ret ∨ x = .normal) ∧ ∃ vs, resV P s env' en.fn.results.toList = some vs ∧ v = retV vs ∧ st' = s := by
            cases x with
            | exit i => cases h
            | normal =>
              simp only [outR] at h
              cases hq : resV P s env' en.fn.results.toList with
              | none => rw [hq] at h; cases h
              | some vs => rw [hq] at h; cases h; exact ⟨.inr rfl, vs, rfl, rfl, rfl⟩
            | ret =>
              simp only [outR] at h
              cases hq : resV P s env' en.fn.results.toList with
              | none => rw [hq] at h; cases h
              | some vs => rw [hq] at h; cases h; exact ⟨.inl rfl, vs, rfl, rfl, rfl⟩
          obtain ⟨hx', vs, hvs, rfl, rfl⟩ := hres
          refine code_sound hm hΓ (evF_sound hm hΓ hT c) code 0 (t3 code hcode) _ st x env' st' hr S σ w _ _ hI ?_ rfl ?_
          · have hlen := relNs_length hx
            refine ⟨by rw [pad_length]; simp [hlen] <;> omega, fun i => ?_⟩
            rw [pad_get]
            have := relNs_get i hx
            by_cases hi : i < vals.length
            · have e : (vals.toArray ++ Array.replicate (en.fn.ntmps - vals.toArray.size) undef).getD i undef = (vals[i]?).getD undef := by
                simp [Array.getD_eq_getD_getElem?, Array.getElem?_append, hi]
              rw [e]; exact this
            · have : V.get xs i = .und := by rw [get_eq]; simp [List.getD, List.getElem?_eq_none (show xs.length ≤ i by omega)]
              rw [this]; exact und_rel _
          · intro S' σ' w' a' q1 q2 q3 q4 q5
            obtain ⟨val, r1, r2⟩ := results_sound q1 q4 hvs
            rcases hx' with rfl | rfl <;> exact ⟨q5, val, r1, val, rfl, S', σ', q1, q2, q3, r2⟩
      · cases h
    · cases h

/-! ### results as data -/
theorem mapO_rels {S S' : Nat → Prop} {σ : Sig} {st : Store} {w : World} {f : V → Option D} (hf : ∀ v x cs, f v = some x → RelC P S σ st w v cs → Fl P S' w x cs) : ∀ {vs : List V} {ds : List D} {css : List (List Value)}, mapO f vs = some ds → RelC.rels P S σ st w vs css → Fl.fls P S' w ds css
  | [], ds, css, h, hr => by simp [mapO] at h; subst h; exact hr
  | v :: vs, ds, css, h, hr => by
    simp only [mapO] at h
    split at h
    · rename_i x xs h1 h2
      cases h
      obtain ⟨c, r, rfl, g2, g3⟩ := hr
      exact ⟨c, r, rfl, hf v x c h1 g2, mapO_rels hf h2 g3⟩
    · cases h
/-- Where results may lie: what was safe, and what is new. -/
theorem fin_rel {S S' : Nat → Prop} {σ : Sig} {st : Store} {w : World} (hI : Inv P B0 S σ st w) (hS : ∀ b, S b → S' b) (hN : ∀ b, B0 ≤ b → b < w.heap.size → S' b) : ∀ (n : Nat) (v : V) (x : D) (cs : List Value), V.fin st n v = some x → RelC P S σ st w v cs → Fl P S' w x cs
  | 0, v, x, cs, h, _ => by simp [V.fin] at h
  | n + 1, v, x, cs, h, hr => by
    cases v with
    | d y => simp [V.fin] at h; subst h; exact Fl.mono hS (fun _ _ => rfl) _ _ hr
    | agg t vs =>
      simp only [V.fin, Option.map_eq_some_iff] at h
      obtain ⟨ds, h1, rfl⟩ := h
      obtain ⟨css, g1, g2, g3⟩ := hr
      exact ⟨css, g1, g2, mapO_rels (fin_rel hI hS hN n) h1 g3⟩
    | nils e =>
      simp [V.fin] at h; subst h
      exact ⟨_, 0, hr, .inl rfl⟩
    | nila e =>
      simp [V.fin] at h; subst h
      obtain ⟨A, rfl⟩ := hr
      exact ⟨A, 0, rfl, .inl rfl⟩
    | rs er k ver off len full =>
      simp only [V.fin] at h
      split at h
      · rename_i e vs he
        simp only [Option.map_eq_some_iff] at h
        obtain ⟨ds, h1, rfl⟩ := h
        obtain ⟨A, c, rfl, hc⟩ := hr
        have hx : RelV P S σ st w (.rs er k ver off len full) (.slice A len c) := RelC.to_v ⟨A, c, rfl, hc⟩ rfl
        obtain ⟨A', c', css, q1, q2, q3, q4⟩ := elems_ok he hI hx
        have hl := rels_length q2
        simp only [Value.slice.injEq] at q1
        obtain ⟨rfl, hlen, rfl⟩ := q1
        have hf := mapO_rels (fin_rel hI hS hN n) h1 q2
        have hdl := fls_length hf
        refine ⟨A, c, by rw [hlen, ← hl, hdl], ?_⟩
        by_cases hd : ds = []
        · exact .inl hd
        · right
          have hdpos : 0 < ds.length := List.length_pos_iff.2 hd
          rcases q4 with q4 | ⟨a, rfl, hcell⟩
          · rw [q4] at hl; simp at hl; subst hl; simp at hdl; omega
          · have hlc := hc.1
            obtain ⟨hv1, hv2, hle⟩ : (st k).ver = ver ∧ (st k).live = true ∧ off + len ≤ (st k).vs.length := by
              simp only [elemsOf] at he
              split at he
              · assumption
              · cases he
            obtain ⟨g0, gp, g1, g2⟩ := hc.2.2.2 hv1.symm hv2
            obtain ⟨hn, hsm⟩ := (hI.own k hv2).row (by rw [g0]; exact gp)
            cases hσ : σ k with
            | none => have := (g1 hσ).2; omega
            | some bc =>
              obtain ⟨b, cap⟩ := bc
              obtain ⟨p1, p2, p3⟩ := g2 b cap hσ
              obtain ⟨f1, f2, f3, cur, cssk, f4, f5, f6, f7, f8, f9, f10⟩ := hsm b cap hσ
              rcases p1 with p1 | p1
              · omega
              · cases p1
                refine ⟨b, off * szOf P (st k).e, css, rfl, hN b f1 f2, by omega, q3, ?_, hf⟩
                refine ⟨cur, (st k).e, (0, 0), f4, fun j hj => ?_⟩
                have := hcell j _ (List.getElem?_eq_getElem hj)
                rw [add_none, cell_of_row w b _ cur _ _ f4] at this
                rw [this, List.getElem?_eq_getElem hj]
      · cases h
    | _ => simp [V.fin] at h
theorem fin_agg {st : Store} {n : Nat} {v : V} {x : D} (h : V.fin st n v = some x) : (V.d x).isAgg = v.isAgg := by
  cases n with
  | zero => simp [V.fin] at h
  | succ n =>
    cases v with
    | d y => simp [V.fin] at h; subst h; rfl
    | agg t vs =>
      simp only [V.fin, Option.map_eq_some_iff] at h
      obtain ⟨ds, h1, rfl⟩ := h
      rfl
    | nils e => simp [V.fin] at h; subst h; rfl
    | nila e => simp [V.fin] at h; subst h; rfl
    | rs er k ver off len full =>
      simp only [V.fin] at h
      split at h
      · simp only [Option.map_eq_some_iff] at h
        obtain ⟨ds, h1, rfl⟩ := h
        rfl
      · cases h
    | _ => simp [V.fin] at h
theorem fin_relN {S S' : Nat → Prop} {σ σ' : Sig} {st st' : Store} {w : World} (hI : Inv P B0 S σ st w) (hS : ∀ b, S b → S' b) (hN : ∀ b, B0 ≤ b → b < w.heap.size → S' b) {n : Nat} {v : V} {x : D} {val : Value} (h : V.fin st n v = some x) (hr : RelN P S σ st w v val) : RelN P S' σ' st' w (.d x) val := by
  have ha := fin_agg h
  rcases hr with hr | ⟨h1, cs, rfl, h3⟩ | ⟨h1, h2⟩
  · subst hr; cases n <;> simp [V.fin] at h
  · exact .inr (.inl ⟨by rw [ha, h1], cs, rfl, fin_rel hI hS hN n v x cs h h3⟩)
  · exact .inr (.inr ⟨by rw [ha, h1], fin_rel hI hS hN n v x _ h h2⟩)
theorem fin_relNs {S S' : Nat → Prop} {σ σ' : Sig} {st st' : Store} {w : World} (hI : Inv P B0 S σ st w) (hS : ∀ b, S b → S' b) (hN : ∀ b, B0 ≤ b → b < w.heap.size → S' b) {n : Nat} : ∀ {vs : List V} {xs : List D} {vals : List Value}, mapO (V.fin st n) vs = some xs → RelNs P S σ st w vs vals → RelNs P S' σ' st' w (xs.map V.d) vals
  | [], xs, vals, h, hr => by simp [mapO] at h; subst h; exact hr
  | v :: vs, xs, vals, h, hr => by
    simp only [mapO] at h
    split at h
    · rename_i x r h1 h2
      cases h
      obtain ⟨u, q, rfl, g2, g3⟩ := hr
      exact ⟨u, q, rfl, fin_relN hI hS hN h1 g2, fin_relNs hI hS hN h2 g3⟩
    · cases h

theorem inv_empty {S : Nat → Prop} {w : World} (hS : ∀ b, S b → b < w.heap.size) : Inv P w.heap.size S (fun _ => none) empty w :=
  ⟨Nat.le_refl _, hS, fun k hl => by simp [empty] at hl, fun k k' hl => by simp [empty] at hl⟩

/-- The contract of a function that the evaluator runs. -/
theorem call_of_ev {T : Table} {f : FuncId} (hm : P.follows .mixedOrders = true) (hΓ : ∀ g s, look Γ g = some s → SpecOk P g s) (hT : TableOk P (Γ.map (·.1)) T) {L c : Nat} {xs rs : List D} (htop : evTop P Γ T L c f xs = some rs)
    {S : Nat → Prop} {w : World} {vals : List Value} (hS : ∀ b, S b → b < w.heap.size) (hargs : ArgsOk P S w xs vals) : CallIn P f vals.toArray w fun val w' => Below w.heap.size w w' ∧ ResOk P (Plus S w w') w' rs val := by
  unfold evTop at htop
  cases hq : evF P Γ T L c f (xs.map V.d) 0 empty with
  | none => rw [hq] at htop; cases htop
  | some q =>
    obtain ⟨v, st'⟩ := q
    rw [hq] at htop
    refine (evF_sound hm hΓ hT c f (xs.map V.d) 0 empty v st' hq w.heap.size S (fun _ => none) w vals (inv_empty hS) (hargs _ _)).mono ?_
    rintro val w' ⟨S', σ', h1, h2, h3, h4⟩
    refine ⟨h3, fun σ0 st0 => ?_⟩
    -- results lie in what was safe, or in what is new
    have hS1 : ∀ b, S' b → Plus S w w' b := fun b hb => (h2.less b hb).imp id (fun q => ⟨q, h1.safe b hb⟩)
    have hN1 : ∀ b, w.heap.size ≤ b → b < w'.heap.size → Plus S w w' b := fun b q1 q2 => .inr ⟨q1, q2⟩
    by_cases hv : ∃ vs, v = .tup vs
    · obtain ⟨vs, rfl⟩ := hv
      obtain ⟨vals', g1, g2⟩ := h4
      have hm1 : mapO (V.fin st' 9) vs = some rs ∧ vs.length ≠ 1 := by
        cases vs with
        | nil => exact ⟨htop, by simp⟩
        | cons x r => cases r with
          | nil => cases htop
          | cons y r => exact ⟨htop, by simp⟩
      have g3 := fin_relNs (σ' := σ0) (st' := st0) h1 hS1 hN1 hm1.1 g2
      have hl1 := relNs_length g3
      have hl2 := relNs_length g2
      have hr : retV (rs.map V.d) = .tup (rs.map V.d) := by
        cases hq : rs.map V.d with
        | nil => rfl
        | cons x r => cases r with
          | nil => rw [hq] at hl1; simp at hl1; omega
          | cons y r => rfl
      rw [hr]
      exact ⟨vals', g1, g3⟩
    · have hn : ∀ vs, v ≠ .tup vs := fun vs e => hv ⟨vs, e⟩
      have htop' : oneL (V.fin st' 9 v) = some rs := by
        cases v <;> first | exact htop | exact absurd rfl (hn _)
      cases hq2 : V.fin st' 9 v with
      | none => rw [hq2] at htop'; cases htop'
      | some x =>
        rw [hq2] at htop'
        cases htop'
        exact RelN.to_v (fin_relN h1 hS1 hN1 hq2 (h4.n hn))
theorem spec_of_ev {T : Table} {f : FuncId} {s : Spec} (hm : P.follows .mixedOrders = true) (hΓ : ∀ g s, look Γ g = some s → SpecOk P g s) (hT : TableOk P (Γ.map (·.1)) T)
    (h : ∀ xs rs, s.run xs = some rs → ∃ L c, evTop P Γ T L c f xs = some rs) : SpecOk P f s := by
  intro xs rs S w vals hrun hS hargs
  obtain ⟨L, c, htop⟩ := h xs rs hrun
  exact call_of_ev hm hΓ hT htop hS hargs

/-- A contract out of typed values: what stands for them, what is asked of them, what comes of them. -/
noncomputable def mkSpec {α : Type} (enc : α → List D) (pre : α → Prop) (out : α → List D) : Spec :=
  ⟨fun xs => open Classical in if h : ∃ x, xs = enc x ∧ pre x then some (out (Classical.choose h)) else none⟩
theorem mkSpec_run {α : Type} {enc : α → List D} {pre : α → Prop} {out : α → List D} (hinj : ∀ x y, enc x = enc y → x = y) (x : α) (hp : pre x) : (mkSpec enc pre out).run (enc x) = some (out x) := by
  have h : ∃ y, enc x = enc y ∧ pre y := ⟨x, rfl, hp⟩
  unfold mkSpec
  simp only
  rw [dif_pos h, hinj _ _ (Classical.choose_spec h).1.symm]
theorem mkSpec_inv {α : Type} {enc : α → List D} {pre : α → Prop} {out : α → List D} {xs rs : List D} (h : (mkSpec enc pre out).run xs = some rs) : ∃ x, xs = enc x ∧ pre x ∧ rs = out x := by
  unfold mkSpec at h
  simp only at h
  split at h
  · rename_i hx
    cases h
    exact ⟨_, (Classical.choose_spec hx).1, (Classical.choose_spec hx).2, rfl⟩
  · cases h
/-- The contract of a function, from its run on typed values. -/
theorem spec_of {T : Table} {f : FuncId} {α : Type} {enc : α → List D} {pre : α → Prop} {out : α → List D} (hm : P.follows .mixedOrders = true) (hΓ : ∀ g s, look Γ g = some s → SpecOk P g s) (hT : TableOk P (Γ.map (·.1)) T)
    (h : ∀ x, pre x → ∃ L c, evTop P Γ T L c f (enc x) = some (out x)) : SpecOk P f (mkSpec enc pre out) :=
  spec_of_ev hm hΓ hT fun xs rs hr => by
    obtain ⟨x, rfl, hp, rfl⟩ := mkSpec_inv hr
    exact h x hp
theorem specs_nil : ∀ g s, look [] g = some s → SpecOk P g s := fun g s h => by cases h
theorem specs_cons {f : FuncId} {s : Spec} {Γ : Specs} (h : SpecOk P f s) (hr : ∀ g s, look Γ g = some s → SpecOk P g s) : ∀ g s', look ((f, s) :: Γ) g = some s' → SpecOk P g s' := by
  intro g s' hl
  simp only [look] at hl
  split at hl
  · rename_i hg; subst hg; cases hl; exact h
  · exact hr g s' hl

theorem table_nil {G : List FuncId} : TableOk P G (tableOf []) := fun f en h => by cases h
theorem table_cons {G : List FuncId} {f : FuncId} {e : Entry} {l : List (FuncId × Entry)} (h1 : P.funcs[f]? = some e.fn) (h2 : (e.fn.name == "runtime.NumGoroutine") = false) (h3 : (match e.fn.body with | some c => codeOk e.ms G c | none => true) = true) (hr : TableOk P G (tableOf l)) : TableOk P G (tableOf ((f, e) :: l)) := by
  intro g en hl
  simp only [tableOf] at hl
  split at hl
  · rename_i hg; subst hg; cases hl
    exact ⟨h1, h2, fun c hc => by rw [hc] at h3; exact h3⟩
  · exact hr g en hl
end
end Go.Ev
end
