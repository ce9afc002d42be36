/- The evaluator's soundness, thirteenth part: calls, and the regions of the code. -/
import Derived.Test.YtmhjmjodchbhlaaREvM
set_option linter.unusedVariables false
set_option linter.unusedSimpArgs false
set_option linter.unusedSectionVars false
namespace Go.Ev
open Go.RowKit

/-- A call of function f comes to R. -/
def CallIn (P : Program) (f : FuncId) (args : Array Value) (w : World) (R : Value → World → Prop) : Prop :=
  (∃ fn, P.funcs[f]? = some fn ∧ (fn.name == "runtime.NumGoroutine") = false ∧ fn.body.isNone = false ∧ Calls P f args w (fun e w' => ∃ v, e = .returned v ∧ R v w')) ∨
  ∃ v w', (callFunc f args).run P w = .ok (.value v) w' ∧ R v w'

def ArgsOk (P : Program) (S : Nat → Prop) (w : World) (xs : List D) (vals : List Value) : Prop := ∀ σ st, RelNs P S σ st w (xs.map V.d) vals
def ResOk (P : Program) (S : Nat → Prop) (w : World) (rs : List D) (val : Value) : Prop := ∀ σ st, RelV P S σ st w (retV (rs.map V.d)) val
/-- What was there, and what is new. -/
def Plus (S : Nat → Prop) (w w' : World) : Nat → Prop := fun b => S b ∨ (w.heap.size ≤ b ∧ b < w'.heap.size)
/-- The contract of a function on plain data. -/
def SpecOk (P : Program) (f : FuncId) (s : Spec) : Prop :=
  ∀ (xs rs : List D) (S : Nat → Prop) (w : World) (vals : List Value), s.run xs = some rs → (∀ b, S b → b < w.heap.size) → ArgsOk P S w xs vals →
    CallIn P f vals.toArray w fun val w' => Below w.heap.size w w' ∧ ResOk P (Plus S w w') w' rs val
/-- The contract of what is entered. -/
def CallerOk (P : Program) (call : Caller) : Prop :=
  ∀ (f : FuncId) (xs : List V) (lv : Nat) (st : Store) (v : V) (st' : Store), call f xs lv st = some (v, st') → ∀ (B0 : Nat) (S : Nat → Prop) (σ : Sig) (w : World) (vals : List Value), Inv P B0 S σ st w → RelNs P S σ st w xs vals →
    CallIn P f vals.toArray w fun val w' => ∃ S' σ', Inv P B0 S' σ' st' w' ∧ Evo S σ st w S' σ' st' w' ∧ Below B0 w w' ∧ RelV P S' σ' st' w' v val

section
variable {P : Program} {B0 : Nat} {S : Nat → Prop} {σ : Sig} {st : Store} {w : World}

theorem CallIn.mono {f : FuncId} {args : Array Value} {R R' : Value → World → Prop} (h : CallIn P f args w R) (hr : ∀ v w', R v w' → R' v w') : CallIn P f args w R' := by
  rcases h with ⟨fn, h1, h2, h3, h4⟩ | ⟨v, w', h1, h2⟩
  · exact .inl ⟨fn, h1, h2, h3, h4.mono fun e w' ⟨v, he, hv⟩ => ⟨v, he, hr v w' hv⟩⟩
  · exact .inr ⟨v, w', h1, hr v w' h2⟩

theorem wp_of_callIn {o : Oper} {a : Act} {f : FuncId} {args : Array Value} {R : Value → World → Prop} {K : Act → World → Prop} {Q : Exit → Act → World → Prop} (h : CallIn P f args w R)
    (hex : (execOp a.eval o).run P w = (callFunc f args).run P w) (hk : ∀ v w', R v w' → K (a.put o.dst v) w') : o.wp P a w K Q := by
  unfold Oper.wp
  rw [hex]
  rcases h with ⟨fn, h1, h2, h3, h4⟩ | ⟨v, w', h1, h2⟩
  · have : (callFunc f args).run P w = .ok (.enter f args) w := by
      unfold callFunc
      simp only [Sem.run_bind, run_program, Result.andThen_ok, h1, h2, h3, Bool.false_eq_true, if_false, Sem.run_pure]
    rw [this, Oper.upon_enter]
    refine h4.mono fun e w' ⟨v, he, hv⟩ => ?_
    subst he
    exact hk v w' hv
  · rw [h1, Oper.upon_value]
    exact hk v w' h2

/-! ### values as data -/
mutual
theorem toD_rel : ∀ (v : V) (x : D) (cs : List Value), V.toD v = some x → RelC P S σ st w v cs → Fl P S w x cs
  | .d y, x, cs, h, hr => by simp [V.toD] at h; subst h; exact hr
  | .agg t vs, x, cs, h, hr => by
    simp only [V.toD, Option.map_eq_some_iff] at h
    obtain ⟨ds, h1, rfl⟩ := h
    obtain ⟨css, g1, g2, g3⟩ := hr
    exact ⟨css, g1, g2, toDs_rel vs ds css h1 g3⟩
  | .p .., _, _, h, _ | .mp .., _, _, h, _ | .rs .., _, _, h, _ | .nils _, _, _, h, _ | .fn .., _, _, h, _ | .tup _, _, _, h, _ | .und, _, _, h, _ | .jk, _, _, h, _ => by simp [V.toD] at h
theorem toDs_rel : ∀ (vs : List V) (ds : List D) (css : List (List Value)), V.toD.V.toDs vs = some ds → RelC.rels P S σ st w vs css → Fl.fls P S w ds css
  | [], ds, css, h, hr => by simp [V.toD.V.toDs] at h; subst h; exact hr
  | v :: vs, ds, css, h, hr => by
    simp only [V.toD.V.toDs] at h
    split at h
    · rename_i x xs h1 h2
      cases h
      obtain ⟨c, r, rfl, g2, g3⟩ := hr
      exact ⟨c, r, rfl, toD_rel v x c h1 g2, toDs_rel vs xs r h2 g3⟩
    · cases h
end
theorem fls_flat {S' : Nat → Prop} {w' : World} (hS : ∀ b, S b → S' b) (hw : ∀ b, S b → w'.heap[b]? = w.heap[b]?) {ds : List D} {css : List (List Value)} (h : Fl.fls P S w ds css) : Fl.fls P S' w' ds css := Fl.monos hS hw ds css h

/-- All memory that there is. -/
def Old (w : World) : Nat → Prop := fun b => b < w.heap.size
theorem fl_old (hI : Inv P B0 S σ st w) {x : D} {cs : List Value} (h : Fl P S w x cs) : Fl P (Old w) w x cs := Fl.mono hI.safe (fun _ _ => rfl) x cs h
mutual
theorem view_rel (hI : Inv P B0 S σ st w) : ∀ (v : V) (x : D) (cs : List Value), V.view st v = some x → RelC P S σ st w v cs → Fl P (Old w) w x cs
  | .d y, x, cs, h, hr => by simp [V.view] at h; subst h; exact fl_old hI hr
  | .agg t vs, x, cs, h, hr => by
    simp only [V.view, Option.map_eq_some_iff] at h
    obtain ⟨ds, h1, rfl⟩ := h
    obtain ⟨css, g1, g2, g3⟩ := hr
    exact ⟨css, g1, g2, views_rel hI vs ds css h1 g3⟩
  | .nils e, x, cs, h, hr => by
    simp [V.view] at h; subst h
    obtain ⟨A, rfl⟩ := hr
    exact ⟨A, 0, rfl, .inl rfl⟩
  | .rs er k ver off len full, x, cs, h, hr => by
    simp only [V.view] at h
    split at h
    · rename_i e vs he
      simp only [Option.map_eq_some_iff] at h
      obtain ⟨ds, h1, rfl⟩ := h
      obtain ⟨A, c, rfl, hc⟩ := hr
      have hx : RelV P S σ st w (.rs er k ver off len full) (.slice A len c) := RelC.to_v ⟨A, c, rfl, hc⟩ rfl
      obtain ⟨A', c', css, q1, q2, q3, q4⟩ := elems_ok he hI hx
      have hl := rels_length q2
      simp only [Value.slice.injEq] at q1
      obtain ⟨rfl, hlen, rfl⟩ := q1
      have hf := toDs_rel vs ds css h1 q2
      have hdl := fls_length hf
      refine ⟨A, c, by rw [hlen, ← hl, hdl], ?_⟩
      rcases q4 with q4 | ⟨a, rfl, hcell⟩
      · left
        exact List.eq_nil_of_length_eq_zero (by rw [← hdl, hl, q4]; rfl)
      · by_cases hd : ds = []
        · exact .inl hd
        · right
          -- where the elements lie
          have hlc := hc.1
          have hdpos : 0 < ds.length := List.length_pos_iff.2 hd
          obtain ⟨hv1, hv2, hle⟩ : (st k).ver = ver ∧ (st k).live = true ∧ off + len ≤ (st k).vs.length := by
            simp only [elemsOf] at he
            split at he
            · assumption
            · cases he
          obtain ⟨g0, gp, g1, g2⟩ := hc.2.2.2 hv1.symm hv2
          obtain ⟨hn, hsm⟩ := (hI.own k hv2).row (by rw [g0]; exact gp)
          cases hσ : σ k with
          | none => have := (g1 hσ).2; omega
          | some bc =>
            obtain ⟨b, cap⟩ := bc
            obtain ⟨p1, p2, p3⟩ := g2 b cap hσ
            obtain ⟨f1, f2, f3, cur, cssk, f4, f5, f6, f7, f8, f9, f10⟩ := hsm b cap hσ
            rcases p1 with p1 | p1
            · omega
            · cases p1
              refine ⟨b, off * szOf P (st k).e, css, rfl, f2, by omega, q3, ?_, Fl.monos hI.safe (fun _ _ => rfl) _ _ hf⟩
              refine ⟨cur, (st k).e, (0, 0), f4, fun j hj => ?_⟩
              have := hcell j _ (List.getElem?_eq_getElem hj)
              rw [add_none, cell_of_row w b _ cur _ _ f4] at this
              rw [this, List.getElem?_eq_getElem hj]
    · cases h
  | .p .., _, _, h, _ | .mp .., _, _, h, _ | .fn .., _, _, h, _ | .tup _, _, _, h, _ | .und, _, _, h, _ | .jk, _, _, h, _ => by simp [V.view] at h
theorem views_rel (hI : Inv P B0 S σ st w) : ∀ (vs : List V) (ds : List D) (css : List (List Value)), V.view.views st vs = some ds → RelC.rels P S σ st w vs css → Fl.fls P (Old w) w ds css
  | [], ds, css, h, hr => by simp [V.view.views] at h; subst h; exact hr
  | v :: vs, ds, css, h, hr => by
    simp only [V.view.views] at h
    split at h
    · rename_i x xs h1 h2
      cases h
      obtain ⟨c, r, rfl, g2, g3⟩ := hr
      exact ⟨c, r, rfl, view_rel hI v x c h1 g2, views_rel hI vs xs r h2 g3⟩
    · cases h
end
mutual
theorem pure_rel : ∀ (v : V) (x : D) (cs : List Value), V.pure v = true → V.view st v = some x → RelC P S σ st w v cs → Fl P S w x cs
  | .d y, x, cs, _, h, hr => by simp [V.view] at h; subst h; exact hr
  | .agg t vs, x, cs, hp, h, hr => by
    simp only [V.view, Option.map_eq_some_iff] at h
    obtain ⟨ds, h1, rfl⟩ := h
    obtain ⟨css, g1, g2, g3⟩ := hr
    exact ⟨css, g1, g2, pures_rel vs ds css (by simpa [V.pure] using hp) h1 g3⟩
  | .nils e, x, cs, _, h, hr => by
    simp [V.view] at h; subst h
    obtain ⟨A, rfl⟩ := hr
    exact ⟨A, 0, rfl, .inl rfl⟩
  | .rs .., _, _, h, _, _ | .mp .., _, _, h, _, _ | .p .., _, _, h, _, _ | .fn .., _, _, h, _, _ | .tup _, _, _, h, _, _ | .und, _, _, h, _, _ | .jk, _, _, h, _, _ => by simp [V.pure] at h
theorem pures_rel : ∀ (vs : List V) (ds : List D) (css : List (List Value)), V.pure.pures vs = true → V.view.views st vs = some ds → RelC.rels P S σ st w vs css → Fl.fls P S w ds css
  | [], ds, css, _, h, hr => by simp [V.view.views] at h; subst h; exact hr
  | v :: vs, ds, css, hp, h, hr => by
    simp only [V.pure.pures, Bool.and_eq_true] at hp
    simp only [V.view.views] at h
    split at h
    · rename_i x xs h1 h2
      cases h
      obtain ⟨c, r, rfl, g2, g3⟩ := hr
      exact ⟨c, r, rfl, pure_rel v x c hp.1 h1 g2, pures_rel vs xs r hp.2 h2 g3⟩
    · cases h
end
/-- What a value's data is: an aggregate if the value is. -/
theorem view_agg {v : V} {x : D} (h : V.view st v = some x) : (V.d x).isAgg = v.isAgg := by
  cases v with
  | d y => simp [V.view] at h; subst h; rfl
  | agg t vs =>
    simp only [V.view, Option.map_eq_some_iff] at h
    obtain ⟨ds, h1, rfl⟩ := h
    rfl
  | nils e => simp [V.view] at h; subst h; rfl
  | rs er k ver off len full =>
    simp only [V.view] at h
    split at h
    · simp only [Option.map_eq_some_iff] at h
      obtain ⟨ds, h1, rfl⟩ := h
      rfl
    · cases h
  | _ => simp [V.view] at h
theorem relN_of_fl {S' : Nat → Prop} {σ' : Sig} {st' : Store} {v : V} {x : D} {val : Value} (h : RelN P S σ st w v val) (hv : V.view st v = some x) (hf : ∀ cs, RelC P S σ st w v cs → Fl P S' w x cs) : RelN P S' σ' st' w (.d x) val := by
  have ha := view_agg hv
  rcases h with h | ⟨h1, cs, rfl, h3⟩ | ⟨h1, h2⟩
  · subst h; simp [V.view] at hv
  · exact .inr (.inl ⟨by rw [ha, h1], cs, rfl, hf cs h3⟩)
  · exact .inr (.inr ⟨by rw [ha, h1], hf _ h2⟩)
theorem argsOk_old (hI : Inv P B0 S σ st w) : ∀ {vs : List V} {ds : List D} {vals : List Value}, V.view.views st vs = some ds → RelNs P S σ st w vs vals → ArgsOk P (Old w) w ds vals
  | [], ds, vals, h, hr => by simp [V.view.views] at h; subst h; exact fun _ _ => hr
  | v :: vs, ds, vals, h, hr => by
    simp only [V.view.views] at h
    split at h
    · rename_i x xs h1 h2
      cases h
      obtain ⟨u, r, rfl, g2, g3⟩ := hr
      exact fun σ' st' => ⟨u, r, rfl, relN_of_fl g2 h1 (fun cs hc => view_rel hI v x cs h1 hc), argsOk_old hI h2 g3 σ' st'⟩
    · cases h
theorem argsOk_pure : ∀ {vs : List V} {ds : List D} {vals : List Value}, V.pure.pures vs = true → V.view.views st vs = some ds → RelNs P S σ st w vs vals → ArgsOk P S w ds vals
  | [], ds, vals, _, h, hr => by simp [V.view.views] at h; subst h; exact fun _ _ => hr
  | v :: vs, ds, vals, hp, h, hr => by
    simp only [V.pure.pures, Bool.and_eq_true] at hp
    simp only [V.view.views] at h
    split at h
    · rename_i x xs h1 h2
      cases h
      obtain ⟨u, r, rfl, g2, g3⟩ := hr
      exact fun σ' st' => ⟨u, r, rfl, relN_of_fl g2 h1 (fun cs hc => pure_rel v x cs hp.1 h1 hc), argsOk_pure hp.2 h2 g3 σ' st'⟩
    · cases h
mutual
theorem flat_any {S' : Nat → Prop} {w' : World} : ∀ (x : D) (cs : List Value), D.flat x = true → Fl P S w x cs → Fl P S' w' x cs
  | .bool b, cs, _, h => h
  | .int k n, cs, _, h => h
  | .str s, cs, _, h => h
  | .agg t ds, cs, hf, h => by
    obtain ⟨css, g1, g2, g3⟩ := h
    exact ⟨css, g1, g2, flats_any ds css (by simpa [D.flat] using hf) g3⟩
  | .sl _ _, _, hf, _ => by simp [D.flat] at hf
  | .ptr _, _, hf, _ => by simp [D.flat] at hf
  | .np, cs, _, h => h
theorem flats_any {S' : Nat → Prop} {w' : World} : ∀ (ds : List D) (css : List (List Value)), D.flat.flats ds = true → Fl.fls P S w ds css → Fl.fls P S' w' ds css
  | [], css, _, h => h
  | d :: ds, css, hf, h => by
    simp only [D.flat.flats, Bool.and_eq_true] at hf
    obtain ⟨c, r, rfl, g2, g3⟩ := h
    exact ⟨c, r, rfl, flat_any d c hf.1 g2, flats_any ds r hf.2 g3⟩
end
theorem relN_d {S' : Nat → Prop} {σ' : Sig} {st' : Store} {w' : World} {x : D} {val : Value} (h : RelN P S σ st w (.d x) val) (hf : ∀ cs, Fl P S w x cs → Fl P S' w' x cs) : RelN P S' σ' st' w' (.d x) val := by
  rcases h with h | ⟨h1, cs, rfl, h3⟩ | ⟨h1, h2⟩
  · cases h
  · exact .inr (.inl ⟨h1, cs, rfl, hf cs h3⟩)
  · exact .inr (.inr ⟨h1, hf _ h2⟩)
theorem relNs_d {S' : Nat → Prop} {σ' : Sig} {st' : Store} {w' : World} : ∀ {xs : List D} {vals : List Value}, (∀ x ∈ xs, ∀ cs, Fl P S w x cs → Fl P S' w' x cs) → RelNs P S σ st w (xs.map V.d) vals → RelNs P S' σ' st' w' (xs.map V.d) vals
  | [], _, _, h => h
  | x :: xs, _, hf, h => by
    obtain ⟨u, r, rfl, h2, h3⟩ := h
    exact ⟨u, r, rfl, relN_d h2 (hf x (by simp)), relNs_d (fun y hy => hf y (by simp [hy])) h3⟩
theorem ret_cases (vs : List V) : (∃ v, vs = [v] ∧ retV vs = v) ∨ retV vs = .tup vs := by
  cases vs with
  | nil => exact .inr rfl
  | cons v r => cases r with
    | nil => exact .inl ⟨v, rfl, rfl⟩
    | cons u r => exact .inr rfl
theorem flats_mem : ∀ {rs : List D}, D.flat.flats rs = true → ∀ x ∈ rs, D.flat x = true
  | [], _, x, hx => by cases hx
  | y :: r, hf, x, hx => by
    simp only [D.flat.flats, Bool.and_eq_true] at hf
    rcases List.mem_cons.1 hx with rfl | hx
    · exact hf.1
    · exact flats_mem hf.2 x hx
theorem resOk_map {S' : Nat → Prop} {w' : World} {rs : List D} {val : Value} (hall : ∀ x ∈ rs, ∀ cs, Fl P S w x cs → Fl P S' w' x cs) (h : ResOk P S w rs val) : ResOk P S' w' rs val := by
  intro σ' st'
  have h0 := h σ' st'
  rcases ret_cases (rs.map V.d) with ⟨v, hv, hr⟩ | hr
  · rw [hr] at h0 ⊢
    cases rs with
    | nil => cases hv
    | cons x r =>
      cases r with
      | nil =>
        simp only [List.map_cons, List.map_nil, List.cons.injEq, and_true] at hv
        subst hv
        exact RelN.to_v (relN_d (h0.n (by simp)) (hall x (by simp)))
      | cons y r => simp at hv
  · rw [hr] at h0 ⊢
    obtain ⟨vals, g1, g2⟩ := h0
    exact ⟨vals, g1, relNs_d hall g2⟩

theorem notup_rel : ∀ {vs : List V} {vals : List Value}, noTup vs = true → (∀ x ∈ vs.zip vals, RelV P S σ st w x.1 x.2) → vs.length = vals.length → RelNs P S σ st w vs vals
  | [], [], _, _, _ => rfl
  | [], _ :: _, _, _, h => by simp at h
  | v :: vs, [], _, _, h => by simp at h
  | v :: vs, u :: us, hn, hr, hl => by
    have hv : (∀ ws, v ≠ .tup ws) ∧ noTup vs = true := by cases v <;> simp [noTup] at hn ⊢ <;> exact hn
    exact ⟨u, us, rfl, (hr (v, u) (by simp)).n hv.1, notup_rel hv.2 (fun x hx => hr x (by simp [hx])) (by simpa using hl)⟩
theorem views_notup : ∀ {vs : List V} {ds : List D}, V.view.views st vs = some ds → noTup vs = true
  | [], _, _ => rfl
  | v :: vs, ds, h => by
    simp only [V.view.views] at h
    split at h
    · rename_i x xs h1 h2
      have := views_notup h2
      cases v <;> first | simpa [noTup] using this | simp [V.view] at h1
    · cases h
theorem caps_rel : ∀ {vs : List V} {vals : List Value}, capsOk vs = true → RelC.rels P S σ st w vs (vals.map fun v => [v]) → RelNs P S σ st w vs vals
  | [], [], _, _ => rfl
  | [], _ :: _, _, h => by simp [RelC.rels] at h
  | _ :: _, [], _, h => by obtain ⟨c, r, e, _⟩ := h; simp at e
  | v :: vs, u :: us, hc, h => by
    obtain ⟨c, r, e, h1, h2⟩ := h
    simp at e
    obtain ⟨rfl, rfl⟩ := e
    obtain ⟨c1, c2, _, _⟩ := capsOk_cons hc
    exact ⟨u, us, rfl, .inr (.inr ⟨c2, h1⟩), caps_rel c1 h2⟩
theorem relNs_append : ∀ {vs us : List V} {xs ys : List Value}, RelNs P S σ st w vs xs → RelNs P S σ st w us ys → RelNs P S σ st w (vs ++ us) (xs ++ ys)
  | [], _, _, _, h, h' => by cases h; exact h'
  | v :: vs, _, _, _, h, h' => by obtain ⟨u, r, rfl, h2, h3⟩ := h; exact ⟨u, r ++ _, rfl, h2, relNs_append h3 h'⟩

/-- Behind a function on plain data. -/
theorem after_spec (hI : Inv P B0 S σ st w) {w' : World} (hb : Below w.heap.size w w') : Inv P B0 (Plus S w w') σ st w' ∧ Evo S σ st w (Plus S w w') σ st w' ∧ Below B0 w w' := by
  have hE : Evo S σ st w (Plus S w w') σ st w' := ⟨hb.size, fun b h => h.imp id And.left, fun b h => .inl h, fun b h => hb.block b (hI.safe b h), fun _ => Nat.le_refl _, fun _ _ h => ⟨h, rfl, rfl⟩⟩
  refine ⟨⟨Nat.le_trans hI.base hb.size, fun b h => ?_, fun k hl => ?_, hI.inj⟩, hE, hb.mono hI.base⟩
  · rcases h with h | h
    · exact Nat.lt_of_lt_of_le (hI.safe b h) hb.size
    · exact h.2
  · obtain ⟨h2, h3⟩ := hI.own k hl
    refine ⟨h2, fun b c hs => ?_⟩
    obtain ⟨g1, g2, g3, o, g4, g5⟩ := h3 b c hs
    refine ⟨g1, Nat.lt_of_lt_of_le g2 hb.size, fun h => ?_, o, (hb.block b g2).trans g4, Holds.mono hE g5⟩
    rcases h with h | h
    · exact g3 h
    · omega

theorem nth_some {α : Type} {l : List α} {i : Nat} {x : α} (h : nth l i = some x) : l[i]? = some x := by rw [← nth_eq]; exact h
/-- What a value handed over stands for. -/
theorem arg_relN (hI : Inv P B0 S σ st w) {v : V} {x : D} {val : Value} (h : V.arg st v = some x) (hr : RelN P S σ st w v val) (σ0 : Sig) (st0 : Store) : RelN P (Old w) σ0 st0 w (.d x) val := by
  have base : V.view st v = some x → RelN P (Old w) σ0 st0 w (.d x) val := fun hv => relN_of_fl hr hv fun cs hc => view_rel hI v x cs hv hc
  unfold V.arg at h
  split at h
  · rename_i k ver i path
    split at h
    · rename_i hvl
      obtain ⟨hver, hlive⟩ := hvl
      split at h
      · rename_i v0 hi
        split at h
        · rename_i y hp
          simp only [Option.map_eq_some_iff] at h
          obtain ⟨d, hd, rfl⟩ := h
          rcases hr with hr | ⟨hr, _⟩ | ⟨_, A, hA, _, hfr⟩
          · cases hr
          · simp [V.isAgg] at hr
          · obtain ⟨gp, b, cap, off, hσ, hoff, rfl⟩ := hfr hver.symm hlive
            have hi' := nth_some hi
            obtain ⟨cur, css, c, q1, q2, q3, q4, q5, q6, q7, q8, _⟩ := elem_cells hI gp hlive hσ hi'
            obtain ⟨off', cy, p1, p2, p3, p4⟩ := getPath_cells path v0 y c q3 hp
            rw [hoff] at p1
            cases p1
            have hbs : b < w.heap.size := ((hI.own k hlive).some b cap hσ).2.1
            refine .inr (.inr ⟨rfl, b, _, cy, hA, hbs, ⟨cur, (st k).e, (0, 0), q1, fun j hj => ?_⟩, view_rel hI y d cy hd p2⟩)
            rw [Nat.add_assoc, cell_of_take q7 (by omega), q6 (off + j) (by omega), p4 j hj]
        · cases h
      · cases h
    · cases h
  · exact base h
theorem args_relN (hI : Inv P B0 S σ st w) : ∀ {vs : List V} {ds : List D} {vals : List Value}, V.args st vs = some ds → RelNs P S σ st w vs vals → ArgsOk P (Old w) w ds vals
  | [], ds, vals, h, hr => by cases h; intro σ0 st0; exact hr
  | v :: vs, ds, vals, h, hr => by
    simp only [V.args] at h
    split at h
    · rename_i x xs h1 h2
      cases h
      obtain ⟨val, r, rfl, g1, g2⟩ := hr
      intro σ0 st0
      exact ⟨val, r, rfl, arg_relN hI h1 g1 σ0 st0, args_relN hI h2 g2 σ0 st0⟩
    · cases h
theorem args_pure : ∀ {vs : List V} {ds : List D}, V.pure.pures vs = true → V.args st vs = some ds → V.view.views st vs = some ds
  | [], ds, _, h => h
  | v :: vs, ds, hp, h => by
    simp only [V.pure.pures, Bool.and_eq_true] at hp
    simp only [V.args] at h
    split at h
    · rename_i x xs h1 h2
      cases h
      have e1 : V.view st v = some x := by cases v <;> first | exact h1 | simp [V.pure] at hp
      simp only [V.view.views, e1, args_pure hp.2 h2]
    · cases h
theorem args_notup : ∀ {vs : List V} {ds : List D}, V.args st vs = some ds → noTup vs = true
  | [], _, _ => rfl
  | v :: vs, ds, h => by
    simp only [V.args] at h
    split at h
    · rename_i x xs h1 h2
      have hr := args_notup h2
      cases v <;> first
        | (simp only [noTup]; exact hr)
        | (simp [V.arg, V.view] at h1)
    · cases h
theorem notup_append : ∀ {vs us : List V}, noTup (vs ++ us) = true → noTup vs = true ∧ noTup us = true
  | [], us, h => ⟨rfl, h⟩
  | v :: vs, us, h => by
    cases v <;> first
      | (simp [noTup] at h; done)
      | (obtain ⟨h1, h2⟩ := notup_append (vs := vs) (us := us) (by simpa [noTup] using h); exact ⟨by simpa [noTup] using h1, h2⟩)
/-- A call, by name or through a value. -/
theorem evCall_sound {Γ : Specs} {call : Caller} {lv : Nat} {f : V} {xs : List V} {v : V} {st' : Store} {fv : Value} {vals : List Value} (hΓ : ∀ g s, look Γ g = some s → SpecOk P g s) (hcall : CallerOk P call)
    (h : evCall Γ call lv st f xs = some (v, st')) (hI : Inv P B0 S σ st w) (hf : RelV P S σ st w f fv) (hx : ∀ x ∈ xs.zip vals, RelV P S σ st w x.1 x.2) (hl : xs.length = vals.length) :
    ∃ (g : FuncId) (caps : List Value), fv = .func (.func g) #[] caps.toArray ∧ CallIn P g (vals ++ caps).toArray w fun val w' => ∃ S' σ', Inv P B0 S' σ' st' w' ∧ Evo S σ st w S' σ' st' w' ∧ Below B0 w w' ∧ RelV P S' σ' st' w' v val := by
  unfold evCall at h
  split at h
  · rename_i g caps
    obtain ⟨cv, hfv, hcaps⟩ := relV_one hf rfl (by simp) (by simp)
    simp at hfv
    refine ⟨g, cv, hfv, ?_⟩
    split at h
    · rename_i s hs
      split at h
      · rename_i hc
        split at h
        · rename_i ds hds
          split at h
          · rename_i rs hrs
            split at h
            · rename_i hq
              cases h
              have hnt := notup_append (args_notup hds)
              have hn := relNs_append (notup_rel hnt.1 hx hl) (caps_rel hc hcaps)
              simp only [Bool.or_eq_true] at hq
              rcases hq with hq | hq
              · refine (hΓ g s hs ds rs S w (vals ++ cv) hrs hI.safe (argsOk_pure hq (args_pure hq hds) hn)).mono fun val w' ⟨hb, hr⟩ => ?_
                obtain ⟨g1, g2, g3⟩ := after_spec hI hb
                exact ⟨_, σ, g1, g2, g3, hr σ _⟩
              · refine (hΓ g s hs ds rs (Old w) w (vals ++ cv) hrs (fun b h => h) (args_relN hI hds hn)).mono fun val w' ⟨hb, hr⟩ => ?_
                obtain ⟨g1, g2, g3⟩ := after_spec hI hb
                exact ⟨_, σ, g1, g2, g3, resOk_map (fun x hx cs hc => flat_any x cs (flats_mem hq x hx) hc) hr σ _⟩
            · cases h
          · cases h
        · cases h
      · cases h
    · split at h
      · rename_i hq
        simp only [Bool.and_eq_true] at hq
        exact hcall g (xs ++ caps) lv st v st' h B0 S σ w (vals ++ cv) hI (relNs_append (notup_rel hq.1 hx hl) (caps_rel hq.2 hcaps))
      · cases h
  · cases h
end
end Go.Ev
