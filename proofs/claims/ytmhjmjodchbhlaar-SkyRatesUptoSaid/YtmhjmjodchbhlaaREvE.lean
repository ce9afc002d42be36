/- The evaluator's soundness, fourth part: operations that ask nothing of memory. -/
import Derived.Test.YtmhjmjodchbhlaaREvD
import Derived.Laws.StructEq
set_option linter.unusedVariables false
set_option linter.unusedSimpArgs false
set_option linter.unusedSectionVars false
namespace Go.Ev
open Go.RowKit

section
variable {P : Program} {S : Nat → Prop} {σ : Sig} {st : Store} {w : World}

theorem RelN.to_v {v : V} {val : Value} (h : RelN P S σ st w v val) : RelV P S σ st w v val := by
  cases v <;> first
    | exact h
    | (rcases h with h | ⟨h, _⟩ | ⟨_, h⟩
       · cases h
       · cases h
       · exact h.elim)
theorem RelC.to_v {v : V} {val : Value} (h : RelC P S σ st w v [val]) (hv : v.isAgg = false) : RelV P S σ st w v val := (RelN.to_v (.inr (.inr ⟨hv, h⟩)))
theorem relNs_at : ∀ {vs : List V} {vals : List Value} {i : Nat} {v : V}, RelNs P S σ st w vs vals → vs[i]? = some v → ∃ u, vals[i]? = some u ∧ RelN P S σ st w v u
  | [], _, _, _, _, h => by simp at h
  | x :: ds, _, i, d, h, hi => by
    obtain ⟨c, r, rfl, h2, h3⟩ := h
    cases i with
    | zero => simp at hi; subst hi; exact ⟨c, rfl, h2⟩
    | succ i => simp at hi; simpa using relNs_at h3 hi

theorem relV_int {k : IntKind} {n : Int} {val : Value} (h : RelV P S σ st w (.d (.int k n)) val) : val = .int k n := by
  rcases h with h | ⟨h, _⟩ | ⟨_, h⟩
  · cases h
  · cases h
  · simpa [RelC, Fl] using h
theorem relV_bool {b : Bool} {val : Value} (h : RelV P S σ st w (.d (.bool b)) val) : val = .bool b := by
  rcases h with h | ⟨h, _⟩ | ⟨_, h⟩
  · cases h
  · cases h
  · simpa [RelC, Fl] using h
theorem relV_str {s : ByteArray} {val : Value} (h : RelV P S σ st w (.d (.str s)) val) : val = .string s := by
  rcases h with h | ⟨h, _⟩ | ⟨_, h⟩
  · cases h
  · cases h
  · simpa [RelC, Fl] using h
theorem relV_one {v : V} {val : Value} (h : RelV P S σ st w v val) (h1 : v.isAgg = false) (h2 : v ≠ .und) (h3 : ∀ vs, v ≠ .tup vs) : RelC P S σ st w v [val] := by
  rcases h.n h3 with h | ⟨h, _⟩ | ⟨_, h⟩
  · exact absurd h h2
  · rw [h1] at h; cases h
  · exact h
theorem int_rel (k : IntKind) (n : Int) : RelV P S σ st w (.d (.int k n)) (.int k n) := RelC.to_v rfl rfl
theorem bool_rel (b : Bool) : RelV P S σ st w (.d (.bool b)) (.bool b) := RelC.to_v rfl rfl
theorem str_rel (s : ByteArray) : RelV P S σ st w (.d (.str s)) (.string s) := RelC.to_v rfl rfl
theorem und_rel (val : Value) : RelV P S σ st w .und val := RelN.to_v (.inl rfl)

/-- The frames agree. -/
def EnvRel (P : Program) (S : Nat → Prop) (σ : Sig) (st : Store) (w : World) (env : List V) (tmps : Array Value) : Prop :=
  env.length = tmps.size ∧ ∀ i, RelV P S σ st w (V.get env i) (tmps.getD i undef)
theorem EnvRel.mono {S' : Nat → Prop} {σ' : Sig} {st' : Store} {w' : World} {env : List V} {tmps : Array Value} (h : EnvRel P S σ st w env tmps) (hE : Evo S σ st w S' σ' st' w') : EnvRel P S' σ' st' w' env tmps :=
  ⟨h.1, fun i => RelV.mono hE (h.2 i)⟩
theorem EnvRel.put {env : List V} {tmps : Array Value} {v : V} {val : Value} (h : EnvRel P S σ st w env tmps) (hv : RelV P S σ st w v val) (d : Tmp) : EnvRel P S σ st w (V.put env d v) (tmps.setIfInBounds d val) := by
  refine ⟨by rw [put_eq]; simp [h.1], fun i => ?_⟩
  rw [put_eq, get_eq]
  by_cases hi : d = i
  · subst hi
    by_cases hlt : d < env.length
    · have h1 : (env.set d v).getD d .und = v := by simp [List.getD, hlt]
      have h2 : (tmps.setIfInBounds d val).getD d undef = val := by simp [Array.getD, ← h.1, hlt]
      rw [h1, h2]; exact hv
    · have h1 : (env.set d v).getD d .und = .und := by simp [List.getD, hlt]
      rw [h1]; exact und_rel _
  · have h1 : (env.set d v).getD i .und = V.get env i := by rw [get_eq]; simp [List.getD, List.getElem?_set_ne hi]
    have h2 : (tmps.setIfInBounds d val).getD i undef = tmps.getD i undef := by simp [Array.getD_eq_getD_getElem?, Array.getElem?_setIfInBounds_ne hi]
    rw [h1, h2]; exact h.2 i
theorem EnvRel.putD {env : List V} {a : Act} {v : V} {val : Value} (h : EnvRel P S σ st w env a.tmps) (hv : RelV P S σ st w v val) (d : Option Tmp) : EnvRel P S σ st w (Ev.putD env d v) (a.put d val).tmps := by
  cases d with
  | none => exact h
  | some d => exact h.put hv d

theorem evalT_rel {env : List V} {a : Act} (h : EnvRel P S σ st w env a.tmps) (t : TypeId) (o : Operand) : RelV P S σ st w (evalT P env t o) (a.eval o) := by
  cases o with
  | tmp i => exact h.2 i
  | func f => exact RelC.to_v ⟨[], rfl, rfl⟩ rfl
  | global g => exact und_rel _
  | const v =>
    cases v with
    | bool b => exact bool_rel b
    | int k n => exact int_rel k n
    | string s => exact str_rel s
    | slice A n c =>
      cases A with
      | some A => exact und_rel _
      | none =>
        simp only [evalT, constT]
        split
        · rename_i hc
          obtain ⟨rfl, rfl⟩ := hc
          split
          · exact RelC.to_v ⟨none, rfl⟩ rfl
          · exact und_rel _
        · exact und_rel _
    | pointer A =>
      cases A with
      | none => exact RelC.to_v rfl rfl
      | some A => exact und_rel _
    | map A =>
      cases A with
      | none => exact RelC.to_v ⟨_, rfl, rfl⟩ rfl
      | some A => exact und_rel _
    | _ => exact und_rel _
theorem evArgs_rel {env : List V} {a : Act} (h : EnvRel P S σ st w env a.tmps) : ∀ (ts : List TypeId) (os : List Operand), (∀ x ∈ os.zip (evArgs P env ts os), RelV P S σ st w x.2 (a.eval x.1))
  | [], [] => by simp [evArgs]
  | _ :: _, [] => by simp
  | [], o :: os => by
    intro x hx
    simp only [evArgs, List.zip_cons_cons, List.mem_cons] at hx
    rcases hx with rfl | hx
    · exact evalT_rel h _ _
    · exact evArgs_rel h [] os x hx
  | t :: ts, o :: os => by
    intro x hx
    simp only [evArgs, List.zip_cons_cons, List.mem_cons] at hx
    rcases hx with rfl | hx
    · exact evalT_rel h _ _
    · exact evArgs_rel h ts os x hx
theorem evArgs_length {env : List V} : ∀ (ts : List TypeId) (os : List Operand), (evArgs P env ts os).length = os.length
  | [], [] => rfl
  | _ :: _, [] => rfl
  | [], o :: os => by simp [evArgs, evArgs_length [] os]
  | t :: ts, o :: os => by simp [evArgs, evArgs_length ts os]

/-! ### numbers and truth -/
theorem run_part {e : TypeId} {y : V} {cs c : List Value} {off : Nat} (h : hasT P e y = true) (hr : RelC P S σ st w y c) (hl : off + c.length ≤ cs.length) (hx : ∀ j, j < c.length → cs[off + j]? = c[j]?) :
    (part e cs.toArray off).run P w = .ok (valOf y c) w := by
  have hlen := hasT_length h hr
  unfold part valOf
  cases hv : y.isAgg
  · obtain ⟨u, rfl⟩ := hr.single hv
    have := hx 0 (by simp)
    simp at this
    simp only [Sem.run_bind, tk_not_agg (hasT_one h hv), Result.andThen_ok]
    simp [this]
  · obtain ⟨⟨n, r, hn⟩, _⟩ := hasT_agg h hv
    simp only [Sem.run_bind, tk_is_agg hn, Result.andThen_ok]
    simp only [if_true, Sem.run_bind, run_sizeOf (hasT_bad h), Result.andThen_ok, Sem.run_pure]
    rw [← hlen]
    congr 2
    apply Array.ext'
    simp only [Array.toList_extract, List.extract_eq_take_drop, Nat.add_sub_cancel_left]
    apply List.ext_getElem?
    intro j
    by_cases hj : j < c.length
    · rw [List.getElem?_take_of_lt hj, List.getElem?_drop, hx j hj]
    · rw [List.getElem?_eq_none (by simp; omega), List.getElem?_eq_none (by omega)]

/-! ### equality -/
theorem ek_agg {t : TypeId} (h : ek P t = .agg) : P.stoodInHeld t = false ∧ P.eqGuardType P.depth t = false ∧ ∀ fs, P.underlying t = some (.struct fs) → ∀ f ∈ fs.toList, f.name ≠ "_" := by
  unfold ek at h
  split at h <;> first | cases h | skip
  rename_i fs hu
  split at h
  · rename_i hc
    simp only [Bool.and_eq_true, Bool.not_eq_true', List.all_eq_true, bne_iff_ne, ne_eq] at hc
    refine ⟨hc.1.1, hc.1.2, fun fs' hu' f hf => ?_⟩
    rw [hu] at hu'
    cases hu'
    exact hc.2 f hf
  · cases h
theorem ek_int {t : TypeId} (h : ek P t = .int) : ∃ k, P.underlying t = some (.int k) := by
  unfold ek at h
  split at h <;> first | cases h | skip
  · rename_i k hu; exact ⟨k, hu⟩
  · split at h <;> cases h
theorem ek_ptr {t : TypeId} (h : ek P t = .ptr) : ∃ e, P.underlying t = some (.pointer e) := by
  unfold ek at h
  split at h <;> first | cases h | skip
  · rename_i e hu; exact ⟨e, hu⟩
  · split at h <;> cases h
theorem ek_bool {t : TypeId} (h : ek P t = .bool) : P.underlying t = some .bool := by
  unfold ek at h
  split at h <;> first | cases h | skip
  · rename_i hu; exact hu
  · split at h <;> cases h
theorem ek_str {t : TypeId} (h : ek P t = .str) : P.underlying t = some .string := by
  unfold ek at h
  split at h <;> first | cases h | skip
  · rename_i hu; exact hu
  · split at h <;> cases h
theorem and2_some {x y : Option Bool} {b : Bool} (h : and2 x y = some b) : ∃ p q, x = some p ∧ y = some q ∧ b = (p && q) := by
  unfold and2 at h
  split at h
  · rename_i p q; cases h; exact ⟨p, q, rfl, rfl, rfl⟩
  · cases h
theorem eqFields_sound {n d : Nat} {fs : List Field} {cx cy : List (List Value)} (ih : ∀ (t : TypeId) (x y : D) (b : Bool) (u v : List Value), eqD P n t x y = some b → Fl P S w x u → Fl P S w y v → (Op.equalIn (n + d) t (valOf (.d x) u) (valOf (.d y) v)).run P w = .ok b w)
    (hn : ∀ f ∈ fs, f.name ≠ "_") (ho : offsOk P 0 fs = true) (hx : cx.map List.length = fs.map fun f => szOf P f.type) (hy : cy.map List.length = fs.map fun f => szOf P f.type) :
    ∀ (k : Nat) (xs ys : List D) (b : Bool), eqD.eqDs P n ((fs.drop k).map (·.type)) xs ys = some b → Fl.fls P S w xs (cx.drop k) → Fl.fls P S w ys (cy.drop k) →
      (Op.eqFields (n + d) cx.flatten.toArray cy.flatten.toArray (fs.drop k)).run P w = .ok b w := by
  intro k
  generalize hm : fs.length - k = m
  induction m generalizing k with
  | zero =>
    intro xs ys b h _ _
    have hk : fs.drop k = [] := List.drop_eq_nil_of_le (by omega)
    rw [hk] at h ⊢
    simp only [List.map_nil] at h
    unfold eqD.eqDs at h
    split at h
    · cases h; rfl
    · rename_i heq _ _; cases heq
    · cases h
  | succ m ihm =>
    intro xs ys b h fx fy
    have hlt : k < fs.length := by omega
    have hd : fs.drop k = fs[k] :: fs.drop (k + 1) := List.drop_eq_getElem_cons hlt
    rw [hd] at h ⊢
    simp only [List.map_cons] at h
    unfold eqD.eqDs at h
    split at h
    · rename_i heq; cases heq
    · rename_i e es x xs' y ys' heq
      cases heq
      split at h
      · rename_i hty
        obtain ⟨p, q, h1, h2, rfl⟩ := and2_some h
        have lx : k < cx.length := by have := congrArg List.length hx; simp at this; omega
        have ly : k < cy.length := by have := congrArg List.length hy; simp at this; omega
        rw [List.drop_eq_getElem_cons lx] at fx
        rw [List.drop_eq_getElem_cons ly] at fy
        obtain ⟨u, r, e1, f1, f2⟩ := fx
        cases e1
        obtain ⟨u', r', e2, g1, g2⟩ := fy
        cases e2
        obtain ⟨o1, o2⟩ := offsOk_spec _ _ ho
        have hoff := o2 k _ (List.getElem?_eq_getElem hlt)
        simp only [Nat.zero_add] at hoff
        obtain ⟨a1, a2⟩ := flatten_at (List.getElem?_eq_getElem lx)
        obtain ⟨b1, b2⟩ := flatten_at (List.getElem?_eq_getElem ly)
        rw [hx] at a1 a2
        rw [hy] at b1 b2
        have r1 : (part fs[k].type cx.flatten.toArray fs[k].offset).run P w = .ok (valOf (.d x) cx[k]) w := by
          rw [hoff]; exact run_part (σ := fun _ => none) (st := empty) hty.1 f1 a1 a2
        have r2 : (part fs[k].type cy.flatten.toArray fs[k].offset).run P w = .ok (valOf (.d y) cy[k]) w := by
          rw [hoff]; exact run_part (σ := fun _ => none) (st := empty) hty.2 g1 b1 b2
        have hname : fs[k].name ≠ "_" := hn _ (List.getElem_mem hlt)
        unfold Op.eqFields
        rw [if_pos hname]
        simp only [Sem.run_bind, r1, r2, Result.andThen_ok, ih _ _ _ _ _ _ h1 f1 g1]
        cases p
        · simp
        · simp only [Bool.not_true, Bool.false_eq_true, if_false, Bool.true_and]
          exact ihm (k + 1) (by omega) _ _ _ h2 f2 g2
      · cases h
    · cases h
theorem eqD_sound (d : Nat) : ∀ (n : Nat) (t : TypeId) (x y : D) (b : Bool) (u v : List Value), eqD P n t x y = some b → Fl P S w x u → Fl P S w y v → (Op.equalIn (n + d) t (valOf (.d x) u) (valOf (.d y) v)).run P w = .ok b w
  | 0, _, _, _, _, _, _, h, _, _ => by simp [eqD] at h
  | n + 1, t, x, y, b, u, v, h, hx, hy => by
    have e : n + 1 + d = n + d + 1 := by omega
    rw [e]
    unfold eqD at h
    split at h
    · rename_i k p k' q hk
      split at h
      · rename_i hkk
        subst hkk
        cases h
        obtain ⟨k0, hu⟩ := ek_int hk
        cases hx; cases hy
        exact run_equalIn_int w (n + d) t k k0 p q hu
      · cases h
    · rename_i p q hk
      cases h
      cases hx; cases hy
      exact run_equalIn_bool' w (n + d) t p q (ek_bool hk)
    · rename_i p q hk
      cases h
      cases hx; cases hy
      exact run_equalIn_string w (n + d) t p q (ek_str hk)
    · rename_i t1 xs t2 ys hk
      split at h
      · rename_i ht
        obtain ⟨rfl, ht2⟩ := ht
        subst ht2
        split at h
        · rename_i m htk
          obtain ⟨cx, rfl, hcx, fx⟩ := hx
          obtain ⟨cy, rfl, hcy, fy⟩ := hy
          obtain ⟨s1, _, s3⟩ := ek_agg hk
          obtain ⟨⟨l, hl, hn⟩, ⟨fs, hu, _⟩ | ⟨m', e', hu, hr⟩⟩ := tk_agg htk
          · obtain ⟨rfl, ho, _⟩ := comps_struct hu hl
            rw [hl] at hcx hcy
            have hcx := (Option.some.inj hcx).symm
            have hcy := (Option.some.inj hcy).symm
            have hff : P.fieldsOf t2 = fs := by unfold Program.fieldsOf; rw [hu]
            have hct : compTs P t2 = fs.toList.map (·.type) := by unfold compTs; rw [hu]
            rw [hct] at h
            show (Op.equalIn (n + d + 1) t2 (.agg cx.flatten.toArray) (.agg cy.flatten.toArray)).run P w = .ok b w
            rw [run_equalIn_agg w (n + d) t2 _ _ (by rw [hff]; exact hu) s1, hff]
            have := eqFields_sound (fs := fs.toList) (n := n) (d := d) (cx := cx) (cy := cy) (fun t x y b u v => eqD_sound d n t x y b u v) (s3 fs hu) ho hcx hcy 0 xs ys b h fx fy
            exact this
          · cases hr
        · cases h
      · cases h
    · cases h
theorem bin_sound {op : BinOp} {t : TypeId} {x y : Operand} {xv yv : V} {a b : Value} {v : V} (h : evBin P op t xv yv = some v) (hx : RelV P S σ st w xv a) (hy : RelV P S σ st w yv b) :
    ∃ val, (do eqGuard op t x y a b; binOp op t a b : Sem Value).run P w = .ok val w ∧ RelV P S σ st w v val := by
  unfold evBin at h
  split at h
  · rename_i k p k' q
    have := relV_int hx; subst this
    have := relV_int hy; subst this
    have hg : (eqGuard op t x y (.int k p) (.int k' q)).run P w = .ok () w := by
      unfold eqGuard; cases op <;> simp
    simp only [Sem.run_bind, hg, Result.andThen_ok]
    split at h
    · split at h
      · cases h
      · rename_i hb; cases h
        refine ⟨_, ?_, int_rel _ _⟩
        simp [binOp, Op.shift, hb, shlI]
    · split at h
      · cases h
      · rename_i hb; cases h
        refine ⟨_, ?_, int_rel _ _⟩
        simp [binOp, Op.shift, hb, shrI]
    · rename_i h1 h2
      split at h
      · rename_i hk
        subst hk
        have hne1 : op ≠ .shl := fun e => h1 e
        have hne2 : op ≠ .shr := fun e => h2 e
        cases op <;> first
          | exact absurd rfl hne1
          | exact absurd rfl hne2
          | (simp only [Option.some.injEq] at h; subst h
             first
               | exact ⟨_, by simp [binOp, Op.intArith] <;> rfl, int_rel _ _⟩
               | exact ⟨_, by simp [binOp, Op.intCmp] <;> rfl, bool_rel _⟩
               | exact ⟨_, by simp [binOp, Op.intBits, bitsI] <;> rfl, int_rel _ _⟩)
          | (dsimp only at h
             split at h
             · cases h
             · rename_i hb; cases h
               first
                 | exact ⟨.int k (k.wrap (p.tdiv q)), by simp [binOp, Op.intDiv, hb], int_rel _ _⟩
                 | exact ⟨.int k (p.tmod q), by simp [binOp, Op.intDiv, hb], int_rel _ _⟩)
          | cases h
      · cases h
  · rename_i p q
    have := relV_bool hx; subst this
    have := relV_bool hy; subst this
    have hg : (eqGuard op t x y (.bool p) (.bool q)).run P w = .ok () w := by
      unfold eqGuard; cases op <;> simp
    simp only [Sem.run_bind, hg, Result.andThen_ok]
    have hu : ∀ {v : V} {z : V}, (if P.underlying t matches some .bool then some z else none) = some v → P.underlying t = some .bool ∧ z = v := by
      intro v z h
      split at h
      · rename_i hm
        refine ⟨?_, Option.some.inj h⟩
        cases hq : P.underlying t with
        | none => rw [hq] at hm; simp at hm
        | some d => rw [hq] at hm; cases d <;> simp at hm; rfl
      · cases h
    cases op <;> simp only at h <;> first
      | cases h
      | (obtain ⟨hb, rfl⟩ := hu h
         first
           | exact ⟨_, run_eql_bool (P := P) w t p q hb, bool_rel _⟩
           | exact ⟨_, run_neq_bool (P := P) w t p q hb, bool_rel _⟩)
  · rename_i p q
    have := relV_str hx; subst this
    have := relV_str hy; subst this
    have hg : (eqGuard op t x y (.string p) (.string q)).run P w = .ok () w := by
      unfold eqGuard; cases op <;> simp
    simp only [Sem.run_bind, hg, Result.andThen_ok]
    cases op <;> simp only at h <;> first
      | (cases h; done)
      | (split at h
         · cases h
         · rename_i hn
           cases h
           exact ⟨.string (p ++ q), by simp only [binOp, Op.stringOp, hn, if_false, Sem.run_pure], str_rel _⟩)
      | (simp only [Option.some.injEq] at h; subst h
         exact ⟨_, by simp only [binOp, Op.stringOp, Sem.run_pure], bool_rel _⟩)
  · rename_i t1 xs t2 ys
    obtain ⟨cx, rfl, hcx⟩ : ∃ cs : List Value, a = .agg cs.toArray ∧ Fl P S w (.agg t1 xs) cs := by
      rcases hx with h | ⟨_, cs, h1, h2⟩ | ⟨h, _⟩
      · cases h
      · exact ⟨cs, h1, h2⟩
      · cases h
    obtain ⟨cy, rfl, hcy⟩ : ∃ cs : List Value, b = .agg cs.toArray ∧ Fl P S w (.agg t2 ys) cs := by
      rcases hy with h | ⟨_, cs, h1, h2⟩ | ⟨h, _⟩
      · cases h
      · exact ⟨cs, h1, h2⟩
      · cases h
    have hm : ∀ {q : Bool}, eqD P 20 t (.agg t1 xs) (.agg t2 ys) = some q → (Op.equalIn 10000 t (.agg cx.toArray) (.agg cy.toArray)).run P w = .ok q w ∧ P.eqGuardType P.depth t = false := by
      intro q hq
      have hk : ek P t = .agg := by
        unfold eqD at hq
        cases hk : ek P t <;> rw [hk] at hq <;> first | rfl | (simp only at hq; cases hq)
      exact ⟨eqD_sound 9980 20 t _ _ q _ _ hq hcx hcy, (ek_agg hk).2.1⟩
    cases op <;> simp only at h <;> first
      | cases h
      | (split at h
         · rename_i q hq
           cases h
           obtain ⟨h1, h2⟩ := hm hq
           refine ⟨_, ?_, bool_rel _⟩
           rw [Sem.run_bind, run_eqGuard_agg w _ t x y _ _ h2, Result.andThen_ok]
           first
             | rw [run_eql_struct w t _ _, h1, Result.andThen_ok]
             | rw [run_neq_struct w t _ _, h1, Result.andThen_ok]
         · cases h)
  · cases h

theorem un_sound {op : UnOp} {xv : V} {a : Value} {v : V} (h : evUn op xv = some v) (hx : RelV P S σ st w xv a) : ∃ val, (Op.unary op a).run P w = .ok val w ∧ RelV P S σ st w v val := by
  unfold evUn at h
  split at h
  · rename_i k n
    have := relV_int hx; subst this
    split at h
    · cases h; exact ⟨_, by simp [Op.unary, Op.intArith] <;> rfl, int_rel _ _⟩
    · cases h; exact ⟨_, by simp [Op.unary, Op.intBits, bitsI] <;> rfl, int_rel _ _⟩
    · cases h
  · rename_i b
    have := relV_bool hx; subst this
    split at h
    · cases h; exact ⟨_, by simp [Op.unary] <;> rfl, bool_rel _⟩
    · cases h
  · cases h

theorem intK_spec {t : TypeId} {k : IntKind} (h : intK P t = some k) : P.underlying t = some (.int k) := by
  unfold intK at h
  split at h
  · rename_i k' hu; cases h; exact hu
  · cases h
theorem conv_sound {s t : TypeId} {xv : V} {a : Value} {v : V} (h : evConv P s t xv = some v) (hx : RelV P S σ st w xv a) : ∃ val, (convert s t a).run P w = .ok val w ∧ RelV P S σ st w v val := by
  unfold evConv at h
  split at h
  · rename_i k n
    have := relV_int hx; subst this
    split at h
    · rename_i k1 k2 h1 h2
      cases h
      refine ⟨_, ?_, int_rel _ _⟩
      simp [convert, run_underlying (intK_spec h1), run_underlying (intK_spec h2), Conv.intToInt]
    · cases h
  · cases h

/-! ### lengths, least and greatest -/
theorem relV_rs {er : TypeId} {k : Key} {ver off len : Nat} {full : Bool} {val : Value} (h : RelV P S σ st w (.rs er k ver off len full) val) :
    ∃ A c, val = .slice A len c ∧ len ≤ c ∧ (0 < len → ∃ a, A = some a) ∧ ver ≤ (st k).ver ∧ (ver = (st k).ver → (st k).live = true → (st k).e = er ∧ 0 < szOf P er ∧ (σ k = none → off = 0 ∧ c = 0) ∧ ∀ b cap, σ k = some (b, cap) → (c = 0 ∨ A = some ⟨b, off * szOf P (st k).e, none⟩) ∧ off + c ≤ cap ∧ (full = true → off + c = cap)) := by
  obtain ⟨A, c, h1, h2⟩ := relV_one h rfl (by simp) (by simp)
  simp at h1
  exact ⟨A, c, h1, h2⟩
theorem relV_nils {e : TypeId} {val : Value} (h : RelV P S σ st w (.nils e) val) : ∃ A, val = .slice A 0 0 := by
  obtain ⟨A, h1⟩ := relV_one h rfl (by simp) (by simp)
  simp at h1
  exact ⟨A, h1⟩
theorem relV_sl {e : TypeId} {ds : List D} {val : Value} (h : RelV P S σ st w (.d (.sl e ds)) val) : ∃ A cap, val = .slice A ds.length cap ∧ (ds = [] ∨ ∃ (b o : Nat) (css : List (List Value)), A = some ⟨b, o, none⟩ ∧ S b ∧ ds.length ≤ cap ∧
      (∀ c ∈ css, c.length = szOf P e) ∧ cellsAt w b o css.flatten ∧ Fl.fls P S w ds css) := by
  obtain ⟨A, cap, h1, h2⟩ := relV_one h rfl (by simp) (by simp)
  simp at h1
  exact ⟨A, cap, h1, h2⟩
theorem equalIn_nil {t e : TypeId} (hu : P.underlying t = some (.slice e)) (d : Nat) (A : Addr) (m c' n c : Nat) (w : World) : (Op.equalIn (d + 1) t (.slice (some A) m c') (.slice none n c)).run P w = .ok false w := by
  simp only [Op.equalIn, Sem.run_bind, run_underlying hu, Result.andThen_ok, Sem.run_pure]
theorem equal_nil {t e : TypeId} (hu : P.underlying t = some (.slice e)) (A : Addr) (m c' n c : Nat) (w : World) : (Op.equal t (.slice (some A) m c') (.slice none n c)).run P w = .ok false w := equalIn_nil hu 9999 A m c' n c w
theorem equalIn_ptr {t e : TypeId} (hu : P.underlying t = some (.pointer e)) (d : Nat) (A : Option Addr) (w : World) : (Op.equalIn (d + 1) t (.pointer A) (.pointer none)).run P w = .ok A.isNone w := by
  cases A <;> simp [Op.equalIn, run_underlying hu]
theorem binO_sound {env : List V} {a : Act} {op : BinOp} {t : TypeId} {x y : Operand} {v : V} (h : evBinO P (evalT P env) op t x y = some v) (hrel : EnvRel P S σ st w env a.tmps) :
    ∃ val, (do eqGuard op t x y (a.eval x) (a.eval y); binOp op t (a.eval x) (a.eval y) : Sem Value).run P w = .ok val w ∧ RelV P S σ st w v val := by
  unfold evBinO at h
  split at h
  · rename_i hy
    split at h
    · rename_i e hk
      obtain ⟨hu, _⟩ := tk_sl hk
      have hya : ∃ n c, y = .const (.slice none n c) := by
        unfold isNilC at hy
        split at hy
        · exact ⟨_, _, rfl⟩
        · cases hy
      obtain ⟨n, c, rfl⟩ := hya
      have hev : a.eval (.const (.slice none n c)) = .slice none n c := rfl
      have hx := evalT_rel hrel t x
      have hsl : ∃ A m c', a.eval x = .slice (some A) m c' ∧ ((op = .eql ∧ v = .d (.bool false)) ∨ (op = .neq ∧ v = .d (.bool true))) := by
        have hsv : ∀ {b : Bool}, (match evalT P env t x with | .d (.sl _ ds) => if 0 < ds.length then some (V.d (.bool b)) else none | .rs _ _ _ _ len _ => if 0 < len then some (V.d (.bool b)) else none | _ => none) = some v → (∃ A m c', a.eval x = .slice (some A) m c') ∧ v = .d (.bool b) := by
          intro b hm
          split at hm
          · rename_i e' ds hv
            rw [hv] at hx
            split at hm
            · rename_i hl
              cases hm
              obtain ⟨A, cap, hA, hds⟩ := relV_sl hx
              rcases hds with rfl | ⟨b', o, css, rfl, _⟩
              · simp at hl
              · exact ⟨⟨_, _, _, hA⟩, rfl⟩
            · cases hm
          · rename_i hv
            rw [hv] at hx
            split at hm
            · rename_i hl
              cases hm
              obtain ⟨A, c', hA, _, hs, _⟩ := relV_rs hx
              obtain ⟨A', rfl⟩ := hs hl
              exact ⟨⟨_, _, _, hA⟩, rfl⟩
            · cases hm
          · cases hm
        unfold evNil at h
        split at h
        · obtain ⟨⟨A, m, c', h1⟩, h2⟩ := hsv h
          exact ⟨A, m, c', h1, .inl ⟨rfl, h2⟩⟩
        · obtain ⟨⟨A, m, c', h1⟩, h2⟩ := hsv h
          exact ⟨A, m, c', h1, .inr ⟨rfl, h2⟩⟩
        · cases h
      obtain ⟨A, m, c', hA, hop⟩ := hsl
      rw [hA, hev]
      rcases hop with ⟨rfl, rfl⟩ | ⟨rfl, rfl⟩
      · refine ⟨.bool false, ?_, bool_rel _⟩
        simp only [eqGuard, binOp, Sem.run_bind, Sem.run_pure, Result.andThen_ok, equal_nil hu]; rfl
      · refine ⟨.bool true, ?_, bool_rel _⟩
        simp only [eqGuard, binOp, Sem.run_bind, Sem.run_pure, Result.andThen_ok, equal_nil hu]; rfl
    · cases h
  · split at h
    · rename_i hy
      split at h
      · rename_i hk
        obtain ⟨e, hu⟩ := ek_ptr hk
        have hya : y = .const (.pointer none) := by
          unfold isNilP at hy
          split at hy
          · rfl
          · cases hy
        subst hya
        have hev : a.eval (.const (.pointer none)) = .pointer none := rfl
        have hx := evalT_rel hrel t x
        have hpt : (a.eval x = .pointer none ∧ ((op = .eql ∧ v = .d (.bool true)) ∨ (op = .neq ∧ v = .d (.bool false)))) ∨ ∃ A, a.eval x = .pointer (some A) ∧ ((op = .eql ∧ v = .d (.bool false)) ∨ (op = .neq ∧ v = .d (.bool true))) := by
          unfold evNilP at h
          split at h
          · rename_i hv
            rw [hv] at hx
            have := relV_one hx rfl (by simp) (by simp)
            have e1 : [a.eval x] = [Value.pointer none] := this
            refine .inl ⟨by simpa using e1, ?_⟩
            split at h <;> first | (cases h; exact .inl ⟨rfl, rfl⟩) | (cases h; exact .inr ⟨rfl, rfl⟩) | cases h
          · rename_i y hv
            rw [hv] at hx
            obtain ⟨b, o, xs, h1, _⟩ := relV_one hx rfl (by simp) (by simp)
            refine .inr ⟨_, by simpa using h1, ?_⟩
            split at h <;> first | (cases h; exact .inl ⟨rfl, rfl⟩) | (cases h; exact .inr ⟨rfl, rfl⟩) | cases h
          · rename_i k ver i path hv
            rw [hv] at hx
            obtain ⟨A, h1, _⟩ := relV_one hx rfl (by simp) (by simp)
            refine .inr ⟨A, by simpa using h1, ?_⟩
            split at h <;> first | (cases h; exact .inl ⟨rfl, rfl⟩) | (cases h; exact .inr ⟨rfl, rfl⟩) | cases h
          · cases h
        have eq1 : ∀ (A : Option Addr) (w : World), (Op.equal t (.pointer A) (.pointer none)).run P w = .ok A.isNone w := fun A w => equalIn_ptr hu 9999 A w
        rw [hev]
        rcases hpt with ⟨hA, hop⟩ | ⟨A, hA, hop⟩ <;> rw [hA] <;> rcases hop with ⟨rfl, rfl⟩ | ⟨rfl, rfl⟩
        · exact ⟨.bool true, by simp [eqGuard, binOp, eq1], bool_rel _⟩
        · exact ⟨.bool false, by simp [eqGuard, binOp, eq1], bool_rel _⟩
        · exact ⟨.bool false, by simp [eqGuard, binOp, eq1], bool_rel _⟩
        · exact ⟨.bool true, by simp [eqGuard, binOp, eq1], bool_rel _⟩
      · cases h
    · exact bin_sound h (evalT_rel hrel _ _) (evalT_rel hrel _ _)
end
end Go.Ev
