/- Parts of one proof, joined: EvQ, EvS, EvT, EvY, PlBase, Ty, E226, E75, E77, G77, E99, G99, G75. -/
import Derived.Test.YtnojehmbiceceaaMCatalogRows5
import Derived.ChangeArms
import Derived.ChangeSame
import Derived.ChangeOld
import Derived.WideShapes
import Derived.SizedLaws
import Derived.DataElems
import Derived.DataReads
import Derived.Carry
import Derived.Test.YtnojehmbiceceaaProg
section
set_option linter.unusedVariables false
set_option linter.unusedSimpArgs false
namespace Go.Ev
open Go.RowKit

/-- What the cells of type t say, as data of a type of Lean's, and the bounds that it keeps. -/
def Opens (P : Program) (t : TypeId) {α : Type} (en : α → D) (WF : α → Prop) : Prop :=
  ∀ {H : Type} (enc : TypeId × Value → H) (w : World) (fuel : Nat) (cs : List Value) (y : DataW H × List MemPlace),
    DataW.trod enc P w 0 (fun _ => true) true fuel t cs = some y → (y.1.weights P t).all (· ≤ reachBytes) = true → ∃ x, Fl P (Old w) w (en x) cs ∧ WF x

theorem Opens.int {P : Program} {t : TypeId} {k : IntKind} (ht : P.underlying t = some (.int k)) : Opens P t (D.int k) (fun x => (Lit.int k x).wf = true) := by
  intro H enc w fuel cs y h _
  obtain ⟨n, rfl, rfl, hw⟩ := DataW.trod_int ht h
  exact ⟨n, rfl, hw⟩
theorem Opens.bool {P : Program} {t : TypeId} (ht : P.underlying t = some .bool) : Opens P t D.bool (fun _ => True) := by
  intro H enc w fuel cs y h _
  obtain ⟨n, rfl, rfl⟩ := DataW.trod_bool ht h
  exact ⟨n, rfl, trivial⟩
theorem Opens.string {P : Program} {t : TypeId} (ht : P.underlying t = some .string) : Opens P t D.str (fun s => s.size ≤ 140737488351232) := by
  intro H enc w fuel cs y h hw
  obtain ⟨s, rfl, rfl, hs⟩ := DataW.trod_string ht h
  refine ⟨s, rfl, ?_⟩
  simp only [DataW.weights, List.all_cons, List.all_nil, Bool.and_true, Array.length_toList] at hw
  exact of_decide_eq_true hw
theorem Opens.iso {P : Program} {t : TypeId} {α β : Type} {en : α → D} {WF : α → Prop} (f : β → α) (g : α → β) (hg : ∀ x, f (g x) = x) (h : Opens P t en WF) : Opens P t (fun y => en (f y)) (fun y => WF (f y)) := by
  intro H enc w fuel cs y hy hw
  obtain ⟨x, hx, hwx⟩ := h enc w fuel cs y hy hw
  exact ⟨g x, by show Fl P (Old w) w (en (f (g x))) cs; rw [hg]; exact hx, by show WF (f (g x)); rw [hg]; exact hwx⟩
theorem all_of {H : Type} {P : Program} {e : TypeId} {l : List (DataW H)} (h : (DataW.weightsAll P e l).all (· ≤ reachBytes) = true) : ∀ y ∈ l, (y.weights P e).all (· ≤ reachBytes) = true := by
  induction l with
  | nil => intro y hy; simp at hy
  | cons a l ih =>
    simp only [DataW.weightsAll, List.all_append, Bool.and_eq_true] at h
    intro y hy
    rcases List.mem_cons.1 hy with rfl | hy
    · exact h.1
    · exact ih h.2 y hy

theorem fls_of {P : Program} {S : Nat → Prop} {w : World} {α : Type} {en : α → D} : ∀ {xs : List α} {css : List (List Value)}, xs.length = css.length → (∀ (i : Nat) (x : α) (c : List Value), xs[i]? = some x → css[i]? = some c → Fl P S w (en x) c) → Fl.fls P S w (xs.map en) css
  | [], [], _, _ => rfl
  | [], _ :: _, h, _ => by simp at h
  | _ :: _, [], h, _ => by simp at h
  | x :: xs, c :: css, hl, h => ⟨c, css, rfl, h 0 x c rfl rfl, fls_of (by simpa using hl) fun i y d hy hd => h (i + 1) y d (by simpa using hy) (by simpa using hd)⟩

theorem Opens.slice {P : Program} {t e : TypeId} {α : Type} {en : α → D} {WF : α → Prop} {B : Nat} (ht : P.underlying t = some (.slice e)) (hp : 0 < P.cellsOf e) (hB : P.bytesOf e = B) (h : Opens P e en WF) :
    Opens P t (fun xs : List α => D.sl e (xs.map en)) (fun xs => xs.length * B ≤ 140737488351232 ∧ ∀ x ∈ xs, WF x) := by
  intro H enc w fuel cs y hy hw
  rcases DataW.trod_slice ht hy with ⟨rfl, rfl⟩ | ⟨a, len, cap, elems, rest, n, _, rfl, rfl, hb, hl, hm, hlen, hel, _, _⟩
  · exact ⟨[], ⟨none, 0, rfl, .inl rfl⟩, by simp, fun x hx => by simp at hx⟩
  · simp only [DataW.weights, ht, List.all_cons, List.all_append, Bool.and_eq_true, decide_eq_true_eq, List.length_map] at hw
    obtain ⟨hw0, hw1, _⟩ := hw
    have hwe := all_of hw1
    have hx : ∀ i, i < len → ∃ (x : α) (c : List Value), c.length = P.cellsOf e ∧ Fl P (Old w) w (en x) c ∧ (∀ j u, c[j]? = some u → w.cell? (a.add (i * P.cellsOf e + j)) = some u) ∧ WF x := by
      intro i hi
      have h1 := hel i hi
      rw [List.getElem?_eq_getElem (by omega)] at h1
      obtain ⟨c, hc, hr⟩ := Option.bind_eq_some_iff.1 h1
      obtain ⟨x, hK, hwf⟩ := h enc w n c _ hr (hwe _ (List.mem_map.2 ⟨_, List.getElem_mem _, rfl⟩))
      obtain ⟨_, hcl, h2⟩ := World.cells?_some hc
      refine ⟨x, c, hcl, hK, fun j u hu => ?_, hwf⟩
      have hj : j < P.cellsOf e := by
        have := (List.getElem?_eq_some_iff.1 hu).1
        omega
      have h3 := h2 j hj
      rw [Go.Addr.add_add] at h3
      rw [h3, hu]
    refine ⟨List.ofFn (n := len) fun i => Classical.choose (hx i.1 i.2), ?_, ?_, ?_⟩
    · refine ⟨some a, cap, by simp, ?_⟩
      by_cases h0 : len = 0
      · left; subst h0; simp
      · right
        have hspec : ∀ i, (hi : i < len) → ∃ c : List Value, c.length = P.cellsOf e ∧ Fl P (Old w) w (en (Classical.choose (hx i hi))) c ∧ (∀ j u, c[j]? = some u → w.cell? (a.add (i * P.cellsOf e + j)) = some u) := by
          intro i hi
          obtain ⟨c, h1, h2, h3, _⟩ := Classical.choose_spec (hx i hi)
          exact ⟨c, h1, h2, h3⟩
        -- all cells, one behind the other
        let css : List (List Value) := List.ofFn (n := len) fun i => Classical.choose (hspec i.1 i.2)
        have hcs : ∀ i (hi : i < len), css[i]? = some (Classical.choose (hspec i hi)) := by
          intro i hi
          simp only [css]
          rw [List.getElem?_ofFn, dif_pos hi]
        have hcl : ∀ c ∈ css, c.length = szOf P e := by
          intro c hc
          obtain ⟨i, rfl⟩ := List.mem_ofFn.1 hc
          exact (Classical.choose_spec (hspec i.1 i.2)).1
        have hcn : css.length = len := by simp [css]
        have hcell : ∀ j u, css.flatten[j]? = some u → w.cell? (a.add j) = some u := by
          intro j u hj
          have hjl := (List.getElem?_eq_some_iff.1 hj).1
          rw [length_flatten_eq hcl, hcn] at hjl
          have hq : j / szOf P e < len := Nat.div_lt_of_lt_mul (by rw [Nat.mul_comm]; exact hjl)
          have hr := Nat.mod_lt j (show 0 < szOf P e from hp)
          have hci := hcs (j / szOf P e) hq
          obtain ⟨g1, g2⟩ := flatten_at hci
          rw [take_sum_const hcl (by omega)] at g2
          obtain ⟨s1, s2, s3⟩ := Classical.choose_spec (hspec (j / szOf P e) hq)
          have hm2 := g2 (j % szOf P e) (by rw [s1]; exact hr)
          have e1 : j / szOf P e * szOf P e + j % szOf P e = j := by rw [Nat.mul_comm]; exact Nat.div_add_mod _ _
          rw [e1, hj] at hm2
          have := s3 (j % szOf P e) u hm2.symm
          have e2 : j / szOf P e * P.cellsOf e + j % szOf P e = j := e1
          rw [e2] at this
          exact this
        have hlp : 0 < css.flatten.length := by rw [length_flatten_eq hcl, hcn]; exact Nat.mul_pos (by omega) hp
        have hfirst := hcell 0 _ (List.getElem?_eq_getElem hlp)
        have ha0 : a.add 0 = a := rfl
        rw [ha0] at hfirst
        obtain ⟨b, o, sp⟩ := a
        have hsp : sp = none := by
          cases sp with
          | none => rfl
          | some q =>
            unfold World.cell? at hfirst
            split at hfirst
            · simp at hfirst
            · cases hfirst
        subst hsp
        have hheap : ∃ c' e' fz, w.heap[b]? = some (.cells c' e' fz) := by
          unfold World.cell? at hfirst
          split at hfirst
          · rename_i c' e' fz hb'; exact ⟨c', e', fz, hb'⟩
          · cases hfirst
        obtain ⟨c', e', fz, hb'⟩ := hheap
        refine ⟨b, o, css, rfl, (Array.getElem?_eq_some_iff.1 hb').1, by simpa using hl, hcl, ⟨c', e', fz, hb', fun j hj => ?_⟩, fls_of (by simp [hcn]) ?_⟩
        · have := hcell j _ (List.getElem?_eq_getElem hj)
          rw [add_none, cell_of_row w b _ c' _ _ hb'] at this
          rw [this, List.getElem?_eq_getElem hj]
        · intro i x c hxi hci
          have hi : i < len := by have := (List.getElem?_eq_some_iff.1 hxi).1; simpa using this
          rw [List.getElem?_ofFn, dif_pos hi] at hxi
          rw [hcs i hi] at hci
          cases hxi
          cases hci
          exact (Classical.choose_spec (hspec i hi)).2.1
    · have : len * B ≤ (elems.length + rest.length) * P.bytesOf e := by rw [hB]; exact Nat.mul_le_mul_right _ (by omega)
      simp only [List.length_ofFn, reachBytes] at hw0 ⊢
      omega
    · intro x hxm
      obtain ⟨i, rfl⟩ := List.mem_ofFn.1 hxm
      obtain ⟨c, _, _, _, h4⟩ := Classical.choose_spec (hx i.1 i.2)
      exact h4

/-- Fields in line, from the cell off on. -/
def OpensF (P : Program) (fs : List Field) (off : Nat) {α : Type} (en : α → List D) (WF : α → Prop) : Prop :=
  ∀ {H : Type} (enc : TypeId × Value → H) (w : World) (n : Nat) (cs : List Value) (xs : List (DataW H × List MemPlace)), xs.length = fs.length →
    (∀ (i : Nat) (f : Field), fs[i]? = some f → DataW.trod enc P w 0 (fun _ => true) true n f.type ((cs.drop f.offset).take (P.cellsOf f.type)) = xs[i]?) →
    (DataW.weightsEach P (fs.map (·.type)) (xs.map (·.1))).all (· ≤ reachBytes) = true → off + (fs.map fun f => szOf P f.type).sum = cs.length → ∃ x css, Fl.fls P (Old w) w (en x) css ∧ css.flatten = cs.drop off ∧ css.map List.length = (fs.map fun f => szOf P f.type) ∧ WF x
theorem OpensF.nil {P : Program} {off : Nat} : OpensF P [] off (fun _ : Unit => []) (fun _ => True) := by
  intro H enc w n cs xs hl hf hw hc
  exact ⟨(), [], rfl, by simp at hc; simp [hc], rfl, trivial⟩
theorem OpensF.cons {P : Program} {f : Field} {fs : List Field} {off : Nat} {α β : Type} {en : α → D} {en' : β → List D} {WF : α → Prop} {WF' : β → Prop} (ho : f.offset = off) (h : Opens P f.type en WF)
    (hr : OpensF P fs (off + szOf P f.type) en' WF') : OpensF P (f :: fs) off (fun x : α × β => en x.1 :: en' x.2) (fun x => WF x.1 ∧ WF' x.2) := by
  intro H enc w n cs xs hl hf hw hc
  match xs, hl with
  | y :: ys, hl =>
    have h0 := hf 0 f rfl
    rw [ho] at h0
    simp only [List.map_cons, DataW.weightsEach, List.all_append, Bool.and_eq_true] at hw
    simp only [List.map_cons, List.sum_cons] at hc
    obtain ⟨x, hx, hwx⟩ := h enc w n _ _ h0 hw.1
    obtain ⟨z, css, hz, hfl, hmap, hwz⟩ := hr enc w n cs ys (by simpa using hl) (fun i g hg => by simpa using hf (i + 1) g (by simpa using hg)) hw.2 (by omega)
    refine ⟨(x, z), _ :: css, ⟨_, css, rfl, hx, hz⟩, ?_, ?_, hwx, hwz⟩
    · rw [List.flatten_cons, hfl]
      show List.take (szOf P f.type) (List.drop off cs) ++ _ = _
      rw [← List.drop_drop, List.take_append_drop]
    · rw [List.map_cons, hmap, List.map_cons]
      congr 1
      show (List.take (szOf P f.type) (List.drop off cs)).length = _
      simp; omega
theorem Opens.struct {P : Program} {t : TypeId} {fs : Array Field} {α : Type} {en : α → List D} {WF : α → Prop} (ht : P.underlying t = some (.struct fs)) (hc : comps P t = some (fs.toList.map fun f => szOf P f.type)) (h : OpensF P fs.toList 0 en WF) : Opens P t (fun x => D.agg t (en x)) WF := by
  intro H enc w fuel cs y hy hw
  obtain ⟨xs, n, rfl, rfl, hl, hlen, hf⟩ := DataW.trod_struct ht hy
  simp only [DataW.weights, ht] at hw
  have hs := comps_sum hc
  obtain ⟨x, css, h1, h2, h3, hwx⟩ := h enc w n cs xs (by simpa using hlen) (fun i f hi => hf i f (by simpa using hi)) hw (by rw [hs]; simp only [Nat.zero_add, szOf]; omega)
  exact ⟨x, ⟨css, by simpa using h2.symm, by rw [h3]; exact hc, h1⟩, hwx⟩

/-- One argument of several: its weights. -/
theorem weight_at {H : Type} {P : Program} : ∀ {ts : List TypeId} {ds : List (DataW H)} {j : Nat} {t : TypeId} {d : DataW H}, (DataW.weightsEach P ts ds).all (· ≤ reachBytes) = true → ts[j]? = some t → ds[j]? = some d → (d.weights P t).all (· ≤ reachBytes) = true
  | [], _, _, _, _, _, ht, _ => by simp at ht
  | _ :: _, [], _, _, _, _, _, hd => by simp at hd
  | t' :: ts, d' :: ds, 0, t, d, h, ht, hd => by
    simp only [DataW.weightsEach, List.all_append, Bool.and_eq_true] at h
    simp only [List.getElem?_cons_zero, Option.some.injEq] at ht hd
    subst ht; subst hd
    exact h.1
  | t' :: ts, d' :: ds, j + 1, t, d, h, ht, hd => by
    simp only [DataW.weightsEach, List.all_append, Bool.and_eq_true] at h
    exact weight_at h.2 (by simpa using ht) (by simpa using hd)

/-- An argument that is an aggregate. -/
theorem arg_agg {P : Program} {S : Nat → Prop} {σ : Sig} {st : Store} {w : World} {x : D} {cs : Array Value} (hx : (V.d x).isAgg = true) (h : Fl P S w x cs.toList) : RelN P S σ st w (.d x) (.agg cs) :=
  .inr (.inl ⟨hx, cs.toList, by simp, h⟩)
theorem arg_one {P : Program} {S : Nat → Prop} {σ : Sig} {st : Store} {w : World} {x : D} {v : Value} (hx : (V.d x).isAgg = false) (h : Fl P S w x [v]) : RelN P S σ st w (.d x) v := .inr (.inr ⟨hx, h⟩)

/-- The law's call, as the form asks for it. -/
theorem law_calls {P : Program} {f : FuncId} {fn : Func} {args : Array Value} {w : World} {b : Bool} {S : Nat → Prop} (hf : P.funcs[f]? = some fn) (hn : (fn.name == "runtime.NumGoroutine") = false) (hb : fn.body.isNone = false)
    (h : CallIn P f args w fun val w' => Below w.heap.size w w' ∧ ResOk P (Plus S w w') w' [.bool b] val) : Calls P f args w fun e w' => e = .returned (.bool b) ∧ Below w.heap.size w w' := by
  rcases h with ⟨fn', h1, h2, h3, h4⟩ | ⟨v, w', h1, _⟩
  · refine h4.mono ?_
    rintro e w' ⟨v, rfl, hbel, hr⟩
    have := hr (fun _ => none) empty
    exact ⟨by rw [relV_bool (show RelV P _ _ _ w' (.d (.bool b)) v from this)], hbel⟩
  · exfalso
    unfold callFunc at h1
    simp only [Sem.run_bind, run_program, Result.andThen_ok, hf, hn, hb, Bool.false_eq_true, if_false, Sem.run_pure] at h1
    cases h1
end Go.Ev
end
section
set_option linter.unusedVariables false
set_option linter.unusedSimpArgs false
namespace Go.Ev
/-- How a value of Lean's stands as plain data. -/
structure Cod (α : Type) where
  e : α → D
  inj : ∀ x y, e x = e y → x = y
structure CodL (α : Type) where
  e : α → List D
  inj : ∀ x y, e x = e y → x = y
def cI (k : IntKind) : Cod Int := ⟨D.int k, fun x y h => by cases h; rfl⟩
def cB : Cod Bool := ⟨D.bool, fun x y h => by cases h; rfl⟩
def cS : Cod ByteArray := ⟨D.str, fun x y h => by cases h; rfl⟩
theorem map_inj' {α : Type} {f : α → D} (hf : ∀ x y, f x = f y → x = y) : ∀ {l l' : List α}, l.map f = l'.map f → l = l'
  | [], [], _ => rfl
  | [], _ :: _, h => by cases h
  | _ :: _, [], h => by cases h
  | x :: l, y :: l', h => by
    simp only [List.map_cons, List.cons.injEq] at h
    rw [hf _ _ h.1, map_inj' hf h.2]
def cL {α : Type} (t : TypeId) (c : Cod α) : Cod (List α) := ⟨fun l => .sl t (l.map c.e), fun x y h => by
  simp only [D.sl.injEq, true_and] at h
  exact map_inj' c.inj h⟩
def cA {α : Type} (t : TypeId) (c : CodL α) : Cod α := ⟨fun x => .agg t (c.e x), fun x y h => by
  simp only [D.agg.injEq, true_and] at h
  exact c.inj _ _ h⟩
def cNil : CodL Unit := ⟨fun _ => [], fun _ _ _ => rfl⟩
def cOne {α : Type} (c : Cod α) : CodL α := ⟨fun x => [c.e x], fun x y h => by
  simp only [List.cons.injEq, and_true] at h
  exact c.inj _ _ h⟩
def cCons {α β : Type} (c : Cod α) (r : CodL β) : CodL (α × β) := ⟨fun x => c.e x.1 :: r.e x.2, fun x y h => by
  simp only [List.cons.injEq] at h
  exact Prod.ext (c.inj _ _ h.1) (r.inj _ _ h.2)⟩
def cIso {α β : Type} (f : β → α) (hf : ∀ x y, f x = f y → x = y) (c : Cod α) : Cod β := ⟨fun y => c.e (f y), fun x y h => hf _ _ (c.inj _ _ h)⟩
noncomputable def specC {α : Type} (c : CodL α) (pre : α → Prop) (out : α → List D) : Spec := mkSpec c.e pre out
theorem specC_run {α : Type} (c : CodL α) (pre : α → Prop) (out : α → List D) (x : α) (hp : pre x) : (specC c pre out).run (c.e x) = some (out x) := mkSpec_run c.inj x hp
theorem specC_ok {P : Program} {Γ : Specs} {T : Table} {f : FuncId} {α : Type} {c : CodL α} {pre : α → Prop} {out : α → List D} (hm : P.follows .mixedOrders = true) (hΓ : ∀ g s, look Γ g = some s → SpecOk P g s) (hT : TableOk P (Γ.map (·.1)) T)
    (h : ∀ x, pre x → ∃ L n, evTop P Γ T L n f (c.e x) = some (out x)) : SpecOk P f (specC c pre out) := spec_of hm hΓ hT h
theorem SpecOk.weak {P : Program} {f : FuncId} {s s' : Spec} (h : SpecOk P f s) (hr : ∀ xs rs, s'.run xs = some rs → s.run xs = some rs) : SpecOk P f s' :=
  fun xs rs S w vals hrun => h xs rs S w vals (hr xs rs hrun)
end Go.Ev
end
section
set_option linter.unusedVariables false
set_option linter.unusedSimpArgs false
namespace Go.Ev
/-! ### a row that grows by appends -/
def grown (e : TypeId) (k : Key) : Nat → V
  | 0 => .nils e
  | n + 1 => .rs e k (n + 1) 0 (n + 1) true
def GrownB (b : Blk) (e : TypeId) (vs : List V) : Prop := (vs = [] → b.ver = 0) ∧ (vs ≠ [] → b = ⟨vs.length, e, vs, true⟩)
theorem appendTo_g {P : Program} {lv : Nat} {d : Tmp} {e : TypeId} {vs new : List V} {n : Nat} (hn : vs.length = n) (h1 : new.length = 1) (hb : n + 1 ≤ maxRow) (hm : (n + 1) * P.bytesOf e ≤ maxRow) (st : Store) (h : GrownB (st (lv, d)) e vs) (hlv : lv < 1000000000000000000000000000000 := by decide) :
    appendTo P lv d st e (grown e (lv, d) n) new = some (grown e (lv, d) (n + 1), upd st (lv, d) ⟨n + 1, e, vs ++ new, true⟩) := by
  cases n with
  | zero =>
    have hv : vs = [] := List.eq_nil_of_length_eq_zero hn
    subst hv
    have := h.1 rfl
    simp only [grown, nilE, appendTo, h1, fk_lo hlv, newBlk, this]
    rw [if_pos ⟨trivial, by simpa using hm⟩]
    simp
  | succ n =>
    have hv : vs ≠ [] := by intro e; subst e; simp at hn
    have := h.2 hv
    simp only [grown, nilE, appendTo, this]
    rw [if_pos ⟨hn, trivial, trivial, trivial, hn.symm, trivial, by rw [h1]; exact hb, by rw [h1]; exact hm⟩, h1]
/-- An append to a row that another append made. -/
theorem appendTo_k {P : Program} {lv : Nat} {d : Tmp} {e : TypeId} {k : Key} {vs new : List V} {n : Nat} (hn : vs.length = n) (h0 : n = 0 → k = (lv, d)) (h1 : new.length = 1) (hb : n + 1 ≤ maxRow) (hm : (n + 1) * P.bytesOf e ≤ maxRow) (st : Store) (h : GrownB (st k) e vs) (hlv : lv < 1000000000000000000000000000000 := by decide) :
    appendTo P lv d st e (grown e k n) new = some (grown e k (n + 1), upd st k ⟨n + 1, e, vs ++ new, true⟩) := by
  cases n with
  | zero => have := h0 rfl; subst this; exact appendTo_g hn h1 hb hm st h hlv
  | succ n =>
    have hv : vs ≠ [] := by intro e; subst e; simp at hn
    have := h.2 hv
    simp only [grown, nilE, appendTo, this]
    rw [if_pos ⟨hn, trivial, trivial, trivial, hn.symm, trivial, by rw [h1]; exact hb, by rw [h1]; exact hm⟩, h1]
theorem fk_low {st : Store} {lv d : Nat} (h : lv < 1000000000000000000000000000000) : fk st lv d = (lv, d) := fk_lo h
theorem appendTo_nils (P : Program) (lv : Nat) (d : Tmp) (st : Store) (e e2 : TypeId) (new : List V) : appendTo P lv d st e (.nils e2) new = if e2 = e ∧ new.length * P.bytesOf e ≤ maxRow then some (.rs e (fk st lv d) ((st (fk st lv d)).ver + 1) 0 new.length true, newBlk st (fk st lv d) e new) else none := nr rfl
theorem appendTo_nila (P : Program) (lv : Nat) (d : Tmp) (st : Store) (e e2 : TypeId) (new : List V) : appendTo P lv d st e (.nila e2) new = if e2 = e ∧ new.length * P.bytesOf e ≤ maxRow then some (.rs e (fk st lv d) ((st (fk st lv d)).ver + 1) 0 new.length true, newBlk st (fk st lv d) e new) else none := nr rfl
theorem appendTo_rs (P : Program) (lv : Nat) (d : Tmp) (st : Store) (e er : TypeId) (k : Key) (ver off len : Nat) (full : Bool) (new : List V) : appendTo P lv d st e (.rs er k ver off len full) new = if (st k).ver = ver ∧ (st k).live = true ∧ er = e ∧ off = 0 ∧ len = (st k).vs.length ∧ full = true ∧ len + new.length ≤ maxRow ∧ (len + new.length) * P.bytesOf e ≤ maxRow then
    some (.rs e k (ver + 1) 0 (len + new.length) true, upd st k ⟨ver + 1, e, (st k).vs ++ new, true⟩) else none := nr rfl
theorem GrownB_put (e : TypeId) (vs : List V) (n : Nat) (hn : vs.length = n + 1) : GrownB ⟨n + 1, e, vs, true⟩ e vs := ⟨fun h => by subst h; simp at hn, fun _ => by rw [hn]⟩
theorem GrownB_0 {b : Blk} (e : TypeId) (h : b.ver = 0) : GrownB b e [] := ⟨fun _ => h, fun h => absurd rfl h⟩
theorem elems_grown {st : Store} {e : TypeId} {k : Key} {vs : List V} {n : Nat} (hn : vs.length = n) (h : GrownB (st k) e vs) : elemsOf st (grown e k n) = some (e, vs) := by
  cases n with
  | zero => have hv : vs = [] := List.eq_nil_of_length_eq_zero hn; subst hv; rfl
  | succ n =>
    have hv : vs ≠ [] := by intro e; subst e; simp at hn
    simp only [grown, elemsOf, h.2 hv]
    rw [if_pos ⟨hn, trivial, by omega⟩, List.drop_zero, List.take_of_length_le (by omega)]
theorem fin_grown {st : Store} {e : TypeId} {k : Key} {vs : List V} {n m : Nat} (hn : vs.length = n) (h : GrownB (st k) e vs) : V.fin st (m + 1) (grown e k n) = (mapO (V.fin st m) vs).map (D.sl e) := by
  have he := elems_grown hn h
  cases n with
  | zero => have hv : vs = [] := List.eq_nil_of_length_eq_zero hn; subst hv; rfl
  | succ n =>
    simp only [grown] at he ⊢
    rw [fin_rs, he]; rfl
theorem view_grown {st : Store} {e : TypeId} {k : Key} {vs : List V} {n : Nat} (hn : vs.length = n) (h : GrownB (st k) e vs) : V.arg st (grown e k n) = (V.toD.V.toDs vs).map (D.sl e) := by
  have he := elems_grown hn h
  cases n with
  | zero => have hv : vs = [] := List.eq_nil_of_length_eq_zero hn; subst hv; rfl
  | succ n =>
    simp only [grown] at he ⊢
    rw [argv_rs]
    simp only [V.view, he]
theorem consV_d (x : D) (vs : List V) : consV (.d x) vs = some (.d x :: vs) := nr rfl
theorem consV_agg (t : TypeId) (xs : List V) (vs : List V) : consV (.agg t xs) vs = some (.agg t xs :: vs) := nr rfl
theorem consV_p (k : Key) (ver i : Nat) (path : List (TypeId × Nat)) (vs : List V) : consV (.p k ver i path) vs = some (.p k ver i path :: vs) := nr rfl
theorem consV_rs (er : TypeId) (k : Key) (ver off len : Nat) (full : Bool) (vs : List V) : consV (.rs er k ver off len full) vs = some (.rs er k ver off len full :: vs) := nr rfl
theorem consV_nila (e : TypeId) (vs : List V) : consV (.nila e) vs = some (.nila e :: vs) := nr rfl
theorem consV_nils (e : TypeId) (vs : List V) : consV (.nils e) vs = some (.nils e :: vs) := nr rfl
theorem consV_fn (f : FuncId) (c : List V) (vs : List V) : consV (.fn f c) vs = some (.fn f c :: vs) := nr rfl
theorem consV_und (vs : List V) : consV .und vs = some (.und :: vs) := nr rfl
theorem consV_jk (vs : List V) : consV .jk vs = some (.jk :: vs) := nr rfl
theorem consV_grown (e : TypeId) (k : Key) (n : Nat) (vs : List V) : consV (grown e k n) vs = some (grown e k n :: vs) := by cases n <;> rfl
theorem topR_grown (st : Store) (e : TypeId) (k : Key) (n : Nat) : topR (some (grown e k n, st)) = oneL (V.fin st 9 (grown e k n)) := by cases n <;> rfl
theorem hasT_grown {P : Program} {t e : TypeId} {x : TypeId} {k : Key} {n : Nat} (h : tk P t = .sl x) : hasT P t (grown e k n) = true := by cases n <;> simp [hasT, grown, h]
theorem len_grown (e : TypeId) (k : Key) (n : Nat) : lenV (grown e k n) = some n := by cases n <;> rfl
theorem consV_nilm (vs : List V) : consV .nilm vs = some (.nilm :: vs) := nr rfl
theorem consV_mp (k : Key) (ver : Nat) (vs : List V) : consV (.mp k ver) vs = some (.mp k ver :: vs) := nr rfl
/-! ### maps -/
theorem sameK_i (k : IntKind) (a b : Int) : sameK (.int k a) (.int k b) = some (decide (a = b)) := by simp [sameK]
theorem sameK_s (a b : ByteArray) : sameK (.str a) (.str b) = some (decide (a = b)) := nr rfl
theorem mget_0 (x : D) : mget [] x = some none := nr rfl
theorem mget_hit (q x : D) (v : V) (r : List V) (h : sameK x q = some true) : mget (.d q :: v :: r) x = some (some v) := by simp [mget, h]
theorem mget_miss (q x : D) (v : V) (r : List V) (h : sameK x q = some false) : mget (.d q :: v :: r) x = mget r x := by simp [mget, h]
theorem mput_0 (x : D) (v : V) : mput [] x v = some [.d x, v] := nr rfl
theorem mput_hit (q x : D) (u v : V) (r : List V) (h : sameK x q = some true) : mput (.d q :: u :: r) x v = some (.d q :: v :: r) := by simp [mput, h]
theorem mput_miss (q x : D) (u v : V) (r : List V) (h : sameK x q = some false) : mput (.d q :: u :: r) x v = consP (.d q) u (mput r x v) := by simp [mput, h]
/-- All keys are whole numbers of a kind. -/
def keysI (k : IntKind) : List V → Prop
  | [] => True
  | [_] => False
  | q :: _ :: r => (∃ n, q = .d (.int k n)) ∧ keysI k r
theorem keysI_get {k : IntKind} {n : Int} : ∀ {m : List V}, keysI k m → ∃ r, mget m (.int k n) = some r
  | [], _ => ⟨none, rfl⟩
  | [_], h => h.elim
  | _ :: v :: r, ⟨⟨q, hq⟩, h2⟩ => by
    subst hq
    by_cases hn : n = q
    · exact ⟨_, mget_hit _ _ _ _ (by simp [sameK_i, hn])⟩
    · obtain ⟨x, hx⟩ := keysI_get (n := n) h2
      exact ⟨x, by rw [mget_miss _ _ _ _ (by simp [sameK_i, hn])]; exact hx⟩
theorem keysI_put {k : IntKind} {n : Int} {v : V} : ∀ {m : List V}, keysI k m → ∃ m', mput m (.int k n) v = some m' ∧ keysI k m' ∧ ∀ j, mget m' (.int k j) = if j = n then some (some v) else mget m (.int k j)
  | [], _ => ⟨[.d (.int k n), v], rfl, ⟨⟨n, rfl⟩, trivial⟩, fun j => by
      by_cases hj : j = n
      · rw [if_pos hj]; exact mget_hit _ _ _ _ (by simp [sameK_i, hj])
      · rw [if_neg hj, mget_miss _ _ _ _ (by simp [sameK_i, hj])]⟩
  | [_], h => h.elim
  | _ :: u :: r, ⟨⟨q, hq⟩, h2⟩ => by
    subst hq
    by_cases hn : n = q
    · subst hn
      refine ⟨_, mput_hit _ _ _ _ _ (by simp [sameK_i]), ⟨⟨_, rfl⟩, h2⟩, fun j => ?_⟩
      by_cases hj : j = n
      · rw [if_pos hj]; exact mget_hit _ _ _ _ (by simp [sameK_i, hj])
      · rw [if_neg hj, mget_miss _ _ _ _ (by simp [sameK_i, hj]), mget_miss _ _ _ _ (by simp [sameK_i, hj])]
    · obtain ⟨m', h3, h4, h5⟩ := keysI_put (n := n) (v := v) h2
      refine ⟨.d (.int k q) :: u :: m', (mput_miss _ _ _ _ _ (by simp [sameK_i, hn])).trans (by rw [h3]; rfl), ⟨⟨_, rfl⟩, h4⟩, fun j => ?_⟩
      by_cases hq2 : j = q
      · subst hq2
        rw [if_neg (fun e => hn e.symm), mget_hit _ _ _ _ (by simp [sameK_i]), mget_hit _ _ _ _ (by simp [sameK_i])]
      · rw [mget_miss _ _ _ _ (by simp [sameK_i, hq2]), mget_miss _ _ _ _ (by simp [sameK_i, hq2]), h5]
theorem elemT_grown (e : TypeId) (k : Key) (n : Nat) (h : 0 < n) : elemT (grown e k n) = some e := by cases n <;> simp_all [grown, elemT]
end Go.Ev
end
section
set_option linter.unusedVariables false
set_option linter.unusedSimpArgs false
namespace Go.Ev
/-! ### partial functions -/
def rq (c : Prop) [Decidable c] {α : Type} (k : Option α) : Option α := if c then k else none
theorem rq_e {c : Prop} [Decidable c] {α : Type} {k : Option α} {r : α} (h : rq c k = some r) : c ∧ k = some r := by
  unfold rq at h; split at h
  · exact ⟨by assumption, h⟩
  · cases h
theorem rq_t {c : Prop} [Decidable c] {α : Type} {k : Option α} (h : c) : rq c k = k := by unfold rq; rw [if_pos h]
theorem ite_e {c : Prop} [Decidable c] {α : Type} {x y : Option α} {r : α} (h : (if c then x else y) = some r) : (c ∧ x = some r) ∨ (¬ c ∧ y = some r) := by
  split at h
  · exact .inl ⟨by assumption, h⟩
  · exact .inr ⟨by assumption, h⟩
def cb (b : Bool) {α : Type} (x y : Option α) : Option α := if b = true then x else y
theorem cb_e {b : Bool} {α : Type} {x y : Option α} {r : α} (h : cb b x y = some r) : (b = true ∧ x = some r) ∨ (b = false ∧ y = some r) := by
  cases b
  · exact .inr ⟨rfl, h⟩
  · exact .inl ⟨rfl, h⟩
theorem cb_t {α : Type} {x y : Option α} : cb true x y = x := nr rfl
theorem cb_f {α : Type} {x y : Option α} : cb false x y = y := nr rfl
def bnd {α β : Type} (x : Option α) (f : α → Option β) : Option β := match x with | some v => f v | none => none
theorem bnd_e {α β : Type} {x : Option α} {f : α → Option β} {r : β} (h : bnd x f = some r) : ∃ v, x = some v ∧ f v = some r := by
  cases x with
  | none => cases h
  | some v => exact ⟨v, rfl, h⟩
theorem bnd_s {α β : Type} {v : α} {f : α → Option β} : bnd (some v) f = f v := nr rfl
theorem bnd_0 {α β : Type} {f : α → Option β} : bnd none f = none := nr rfl
def idx {α : Type} (l : List α) (i : Int) : Option α := if 0 ≤ i then l[i.toNat]? else none
theorem idx_e {α : Type} {l : List α} {i : Int} {v : α} (h : idx l i = some v) : 0 ≤ i ∧ i < (l.length : Int) ∧ l[i.toNat]? = some v := by
  unfold idx at h; split at h
  · rename_i h0
    obtain ⟨h1, _⟩ := List.getElem?_eq_some_iff.1 h
    exact ⟨h0, by omega, h⟩
  · cases h
theorem idx_s {α : Type} {l : List α} {i : Int} (h0 : 0 ≤ i) : idx l i = l[i.toNat]? := by unfold idx; rw [if_pos h0]
theorem idx_nat {α : Type} {l : List α} {i : Nat} : idx l (i : Int) = l[i]? := by unfold idx; rw [if_pos (by omega), Int.toNat_natCast]
def sat (s : ByteArray) (n : Int) : Option Int := if 0 ≤ n then (s[n.toNat]?).map fun b => (b.toNat : Int) else none
theorem sat_e {s : ByteArray} {n v : Int} (h : sat s n = some v) : strAt s n = some (.d (.int .u8 v)) := by
  unfold sat at h; unfold strAt
  split at h
  · rename_i h0
    rw [if_pos h0]
    cases hb : s[n.toNat]? with
    | none => rw [hb] at h; cases h
    | some b => rw [hb] at h; cases h; rfl
  · cases h
def Hold (p : Prop) : Prop := p
/-! ### rounds over a list, counted rounds -/
def Rng {α : Type} (l : List α) (i : Int) (tl : List α) : Prop := 0 ≤ i ∧ l.drop i.toNat = tl ∧ i.toNat ≤ l.length ∧ l.length < 4611686018427387904
theorem rng_0 {α : Type} {l : List α} {L : Nat} (h : l.length < L) (hL : L ≤ 4611686018427387904) : Rng l 0 l := ⟨Int.le_refl _, rfl, Nat.zero_le _, by omega⟩
theorem rng_nil {α : Type} {l : List α} {i : Int} (h : Rng l i []) : ¬ i < (l.length : Int) := by
  obtain ⟨h0, h1, h2, h3⟩ := h
  have := congrArg List.length h1
  simp at this
  omega
theorem rng_end {α : Type} {l : List α} {i : Int} (h : Rng l i []) : i = (l.length : Int) := by
  have h4 := rng_nil h
  obtain ⟨h0, h1, h2, h3⟩ := h
  omega
theorem rng_s {α : Type} {l tl : List α} {i : Int} {x : α} (h : Rng l i (x :: tl)) : 0 ≤ i ∧ i < (l.length : Int) ∧ l[i.toNat]? = some x ∧ IntKind.i64.wrap (i + 1) = i + 1 ∧ Rng l (i + 1) tl := by
  obtain ⟨h0, h1, h2, h3⟩ := h
  have hl := congrArg List.length h1
  simp at hl
  have hx : l[i.toNat]? = some x := by
    have := congrArg (fun q => q[0]?) h1
    simpa using this
  have ht : (i + 1).toNat = i.toNat + 1 := by omega
  refine ⟨h0, by omega, hx, IntWalk.i64_in _ (by omega), by omega, ?_, by omega, h3⟩
  rw [ht, ← List.drop_drop, h1]; rfl
def Cnt (n i : Int) (k : Nat) : Prop := 0 ≤ i ∧ (n - i).toNat = k ∧ n < 4611686018427387904
theorem cnt_0 {n i : Int} (h0 : 0 ≤ i) (h : n < 4611686018427387904) : Cnt n i (n - i).toNat := ⟨h0, rfl, h⟩
theorem cnt_00 {n : Int} (h0 : (0 : Int) ≤ 0) (h : n < 4611686018427387904) : Cnt n 0 n.toNat := ⟨h0, by rw [Int.sub_zero], h⟩
theorem cnt_nil {n i : Int} (h : Cnt n i 0) : ¬ i < n := by obtain ⟨h0, h1, h2⟩ := h; omega
theorem cnt_s {n i : Int} {k : Nat} (h : Cnt n i (k + 1)) : 0 ≤ i ∧ i < n ∧ IntKind.i64.wrap (i + 1) = i + 1 ∧ Cnt n (i + 1) k := by
  obtain ⟨h0, h1, h2⟩ := h
  exact ⟨h0, by omega, IntWalk.i64_in _ (by omega), by omega, by omega, h2⟩
/-! ### rows of typed values -/
def rowV {α : Type} (f : α → D) (l : List α) : List V := l.map fun x => V.d (f x)
section
variable {α : Type} (f : α → D)
theorem rowV_len (l : List α) : (rowV f l).length = l.length := by simp [rowV]
theorem rowV_nil : rowV f [] = [] := nr rfl
theorem rowV_cons (x : α) (l : List α) : rowV f (x :: l) = V.d (f x) :: rowV f l := nr rfl
theorem rowV_append (l m : List α) : rowV f (l ++ m) = rowV f l ++ rowV f m := by simp [rowV]
theorem rowV_set (l : List α) (i : Nat) (x : α) : rowV f (l.set i x) = setN (rowV f l) i (V.d (f x)) := by rw [setN_eq, rowV, rowV, List.map_set]
theorem rowV_replicate (n : Nat) (x : α) : rowV f (List.replicate n x) = List.replicate n (V.d (f x)) := by simp [rowV]
theorem nth_row (l : List α) (i : Nat) : nth (rowV f l) i = (l[i]?).map fun x => V.d (f x) := by rw [nth_eq, rowV, List.getElem?_map]
theorem row_take (l : List α) (n : Nat) : (rowV f l).take n = rowV f (l.take n) := by simp [rowV, List.map_take]
theorem row_drop (l : List α) (n : Nat) : (rowV f l).drop n = rowV f (l.drop n) := by simp [rowV, List.map_drop]
theorem toDs_row : ∀ l : List α, V.toD.V.toDs (rowV f l) = some (l.map f)
  | [] => rfl
  | x :: r => by rw [rowV_cons]; simp only [V.toD.V.toDs, V.toD, toDs_row r, List.map_cons]
theorem fin_row (st : Store) (n : Nat) : ∀ l : List α, mapO (V.fin st (n + 1)) (rowV f l) = some (l.map f)
  | [] => rfl
  | x :: r => by rw [rowV_cons]; simp only [mapO, fin_d, fin_row st n r, List.map_cons]
theorem map_row (l : List α) : (l.map f).map V.d = rowV f l := by simp [rowV]
theorem map_take_ (l : List α) (n : Nat) : (l.map f).take n = (l.take n).map f := by simp [List.map_take]
theorem map_drop_ (l : List α) (n : Nat) : (l.map f).drop n = (l.drop n).map f := by simp [List.map_drop]
end
def Bk (b : Blk) (e : TypeId) (vs : List V) : Prop := b.e = e ∧ b.vs = vs ∧ b.live = true
theorem Bk_i (b : Blk) (e : TypeId) (vs : List V) : Bk b e vs = (b.e = e ∧ b.vs = vs ∧ b.live = true) := nr rfl
/-! ### rows that are nil while they are empty -/
def gl (e : TypeId) (k : Key) (ver : Nat) : List V → V
  | [] => .nils e
  | v :: vs => .rs e k ver 0 (vs.length + 1) true
def GlB (b : Blk) (e : TypeId) (vs : List V) : Prop := vs ≠ [] → Bk b e vs
theorem GlB_0 (b : Blk) (e : TypeId) : GlB b e [] = True := eq_true fun h => absurd rfl h
theorem GlB_mk (v : Nat) (e : TypeId) (vs : List V) : GlB ⟨v, e, vs, true⟩ e vs = True := eq_true fun _ => ⟨rfl, rfl, rfl⟩
theorem GlB_of {b : Blk} {e : TypeId} {vs : List V} (h1 : b.e = e) (h2 : b.vs = vs) (h3 : b.live = true) : GlB b e vs := fun _ => ⟨h1, h2, h3⟩
theorem gl_nil (e : TypeId) (k : Key) (ver : Nat) : gl e k ver [] = .nils e := nr rfl
theorem gl_cons (e : TypeId) (k : Key) (ver : Nat) (v : V) (vs : List V) : gl e k ver (v :: vs) = .rs e k ver 0 (vs.length + 1) true := nr rfl
theorem gl_pos {e : TypeId} {k : Key} {ver : Nat} {vs : List V} (h : vs ≠ []) : gl e k ver vs = .rs e k ver 0 vs.length true := by cases vs; exact absurd rfl h; rfl
theorem gl_snoc (e : TypeId) (k : Key) (ver : Nat) (v : V) (ws vs : List V) : gl e k ver (ws ++ v :: vs) = .rs e k ver 0 (ws.length + (vs.length + 1)) true := by
  rw [gl_pos (by simp)]; simp
theorem gl_ne {α : Type} {f : α → D} {l : List α} {i : Nat} {x : α} (h : l[i]? = some x) (e : TypeId) (k : Key) (ver : Nat) : gl e k ver (rowV f l) = .rs e k ver 0 l.length true := by
  have hl : l ≠ [] := by intro h2; subst h2; simp at h
  rw [gl_pos (by simpa [rowV] using hl), rowV_len]
theorem gl_nz {α : Type} {f : α → D} {l : List α} (h : ¬ l.length = 0) (e : TypeId) (k : Key) (ver : Nat) : gl e k ver (rowV f l) = .rs e k ver 0 l.length true := by
  have hl : l ≠ [] := by intro h2; subst h2; exact h rfl
  rw [gl_pos (by simpa [rowV] using hl), rowV_len]
theorem row_nz {α : Type} {f : α → D} {l : List α} (h : ¬ l.length = 0) : rowV f l ≠ [] := by
  intro h2; cases l <;> simp [rowV] at h2 h
theorem gl_setN (e : TypeId) (k : Key) (ver : Nat) (vs : List V) (i : Nat) (x : V) : gl e k ver (setN vs i x) = gl e k ver vs := by
  cases vs with
  | nil => rfl
  | cons v vs => cases i <;> simp [setN, gl, setN_eq]
theorem row_ne {α : Type} {f : α → D} {l : List α} {i : Nat} {x : α} (h : l[i]? = some x) : rowV f l ≠ [] := by
  intro h2; cases l <;> simp [rowV] at h2 h
theorem appendTo_gl {P : Program} {lv : Nat} {d : Tmp} {st : Store} {e : TypeId} {k : Key} {ver : Nat} {vs new : List V} (h1 : (st k).ver = ver) (h2 : GlB (st k) e vs) (h3 : k = (lv, d)) (h4 : lv < 1000000000000000000000000000000)
    (h5 : vs.length + new.length ≤ maxRow) (h6 : (vs.length + new.length) * P.bytesOf e ≤ maxRow) :
    appendTo P lv d st e (gl e k ver vs) new = some (.rs e k (ver + 1) 0 (vs.length + new.length) true, upd st k ⟨ver + 1, e, vs ++ new, true⟩) := by
  subst h3
  cases vs with
  | nil =>
    rw [gl_nil, appendTo_nils, fk_low h4, if_pos ⟨rfl, by simpa using h6⟩, h1]
    simp [newBlk, h1]
  | cons v vs =>
    obtain ⟨g1, g2, g3⟩ := h2 (by simp)
    rw [gl_cons, appendTo_rs, if_pos ⟨h1, g3, rfl, rfl, by rw [g2]; rfl, rfl, h5, h6⟩, g2]
    rfl
theorem consV_gl (e : TypeId) (k : Key) (ver : Nat) (ws vs : List V) : consV (gl e k ver ws) vs = some (gl e k ver ws :: vs) := by cases ws <;> rfl
theorem len_gl (e : TypeId) (k : Key) (ver : Nat) (ws : List V) : lenV (gl e k ver ws) = some ws.length := by cases ws <;> rfl
theorem hasT_gl {P : Program} {t e : TypeId} {k : Key} {ver : Nat} {ws : List V} : hasT P t (gl e k ver ws) = (match tk P t with | .one | .sl _ => true | _ => false) := by cases ws <;> (unfold hasT gl; cases tk P t <;> rfl)
theorem len_glB (P : Program) (t e : TypeId) (k : Key) (ver : Nat) (ws : List V) : evPureB P .len [t] [gl e k ver ws] = (match tk P t with | .sl _ => some (.d (.int .i64 ws.length)) | _ => none) := by
  cases ws <;> (simp only [evPureB, gl, lenV]; cases tk P t <;> rfl)
theorem elems_gl {st : Store} {e : TypeId} {k : Key} {ver : Nat} {vs : List V} (h1 : (st k).ver = ver) (h2 : GlB (st k) e vs) : elemsOf st (gl e k ver vs) = some (e, vs) := by
  cases vs with
  | nil => rfl
  | cons v vs =>
    obtain ⟨g1, g2, g3⟩ := h2 (by simp)
    simp only [gl, elemsOf, g2]
    rw [if_pos ⟨h1, g3, by simp⟩, List.drop_zero, List.take_of_length_le (by simp)]
theorem fin_gl {st : Store} {e : TypeId} {k : Key} {ver n : Nat} {vs : List V} (h1 : (st k).ver = ver) (h2 : GlB (st k) e vs) : V.fin st (n + 1) (gl e k ver vs) = (mapO (V.fin st n) vs).map (D.sl e) := by
  have he := elems_gl h1 h2
  cases vs with
  | nil => rfl
  | cons v vs => simp only [gl] at he ⊢; rw [fin_rs, he]; rfl
theorem view_gl {st : Store} {e : TypeId} {k : Key} {ver : Nat} {vs : List V} (h1 : (st k).ver = ver) (h2 : GlB (st k) e vs) : V.view st (gl e k ver vs) = (V.toD.V.toDs vs).map (D.sl e) := by
  have he := elems_gl h1 h2
  cases vs with
  | nil => rfl
  | cons v vs => simp only [gl] at he ⊢; simp only [V.view, he]
theorem argv_gl (st : Store) (e : TypeId) (k : Key) (ver : Nat) (vs : List V) : V.arg st (gl e k ver vs) = V.view st (gl e k ver vs) := by cases vs <;> rfl
theorem topR_gl (st : Store) (e : TypeId) (k : Key) (ver : Nat) (vs : List V) : topR (some (gl e k ver vs, st)) = oneL (V.fin st 9 (gl e k ver vs)) := by cases vs <;> rfl
/-! ### places -/
def sp : Nat → Nat → List (Nat × V) → List V
  | 0, _, _ => []
  | n + 1, i, [] => .und :: sp n (i + 1) []
  | n + 1, i, (j, v) :: r => if i = j then v :: sp n (i + 1) r else .und :: sp n (i + 1) ((j, v) :: r)
theorem sp_z (i : Nat) (r : List (Nat × V)) : sp 0 i r = [] := nr rfl
theorem sp_0 (n i : Nat) : sp (n + 1) i [] = .und :: sp n (i + 1) [] := nr rfl
theorem sp_s (n i j : Nat) (v : V) (r : List (Nat × V)) : sp (n + 1) i ((j, v) :: r) = if i = j then v :: sp n (i + 1) r else .und :: sp n (i + 1) ((j, v) :: r) := nr rfl
/-- A mask by the places that are kept. -/
def mb : Nat → Nat → List Nat → List Bool
  | 0, _, _ => []
  | n + 1, i, [] => false :: mb n (i + 1) []
  | n + 1, i, j :: r => if i = j then true :: mb n (i + 1) r else false :: mb n (i + 1) (j :: r)
def km : Nat → Nat → List Nat → List V → List V
  | 0, _, _, vs => vs
  | n + 1, i, _, [] => []
  | n + 1, i, [], v :: vs => .und :: km n (i + 1) [] vs
  | n + 1, i, j :: r, v :: vs => if i = j then v :: km n (i + 1) r vs else .und :: km n (i + 1) (j :: r) vs
theorem mask_mb : ∀ (n i : Nat) (js : List Nat) (vs : List V), mask (mb n i js) vs = km n i js vs
  | 0, _, _, vs => by simp [mb, mask, km]
  | n + 1, i, [], [] => rfl
  | n + 1, i, j :: r, [] => by
    simp only [mb, km]; split <;> rfl
  | n + 1, i, [], v :: vs => by simp only [mb, mask, km, mask_mb n]
  | n + 1, i, j :: r, v :: vs => by
    simp only [mb, km]
    split <;> simp only [mask, mask_mb n]
theorem km_z (i : Nat) (js : List Nat) (vs : List V) : km 0 i js vs = vs := nr rfl
theorem km_0 (n i : Nat) (v : V) (vs : List V) : km (n + 1) i [] (v :: vs) = .und :: km n (i + 1) [] vs := nr rfl
theorem km_s (n i j : Nat) (r : List Nat) (v : V) (vs : List V) : km (n + 1) i (j :: r) (v :: vs) = if i = j then v :: km n (i + 1) r vs else .und :: km n (i + 1) (j :: r) vs := nr rfl
/-! ### contracts of partial functions -/
noncomputable def specP {α β : Type} (c : CodL α) (p : α → Option β) (res : β → List D) : Spec := specC c (fun x => (p x).isSome = true) fun x => match p x with | some r => res r | none => []
theorem specP_run {α β : Type} (c : CodL α) (p : α → Option β) (res : β → List D) (x : α) : (specP c p res).run (c.e x) = (p x).map res := by
  cases h : p x with
  | some r => unfold specP; rw [specC_run _ _ _ x (by rw [h]; rfl)]; simp only [h]; rfl
  | none =>
    cases h2 : (specP c p res).run (c.e x) with
    | none => rfl
    | some rs =>
      unfold specP specC at h2
      obtain ⟨y, h3, h4, _⟩ := mkSpec_inv h2
      have := c.inj _ _ h3
      subst this
      rw [h] at h4; cases h4
theorem specP_ok {P : Program} {Γ : Specs} {T : Table} {f : FuncId} {α β : Type} {c : CodL α} {p : α → Option β} {res : β → List D} (hm : P.follows .mixedOrders = true) (hΓ : ∀ g s, look Γ g = some s → SpecOk P g s) (hT : TableOk P (Γ.map (·.1)) T)
    (h : ∀ x r, p x = some r → ∃ L n, evTop P Γ T L n f (c.e x) = some (res r)) : SpecOk P f (specP c p res) := specC_ok hm hΓ hT fun x hp => by
  cases hx : p x with
  | none => rw [hx] at hp; cases hp
  | some r => exact h x r hx
def bodyN (fn : Func) : Code := match fn.body with | some c => c | none => .skip
theorem beq_toList (a b : ByteArray) : (a.toList == b.toList) = decide (a = b) := by
  have h : a.toList = b.toList ↔ a = b := by
    constructor
    · intro h
      rw [ByteArray.toList_eq, ByteArray.toList_eq] at h
      cases a; cases b
      simp only at h
      congr
      exact Array.toList_inj.1 h
    · intro h; rw [h]
  by_cases c : a = b
  · rw [decide_eq_true c, c]; simp
  · rw [decide_eq_false c]
    simp only [beq_eq_false_iff_ne, ne_eq]
    exact fun e => c (h.1 e)
theorem le_maxRow {n : Nat} (h : n ≤ 1000000) : (n ≤ maxRow) = True := eq_true (by unfold maxRow; omega)
theorem bq_t (b : Bool) : (b == true) = b := by cases b <;> rfl
theorem bq_f (b : Bool) : (b == false) = !b := by cases b <;> rfl
theorem nc0 : ((0 : Nat) : Int) = 0 := nr rfl
end Go.Ev
namespace Go.Ev
section
variable {α β : Type} {G : Prop} {r : β}
theorem rq_i {c : Prop} [Decidable c] {k : Option β} (h : c → k = some r → G) : rq c k = some r → G := fun q => h (rq_e q).1 (rq_e q).2
theorem ite_i {c : Prop} [Decidable c] {x y : Option β} (h1 : c → x = some r → G) (h2 : ¬ c → y = some r → G) : (if c then x else y) = some r → G := fun q => (ite_e q).elim (fun z => h1 z.1 z.2) fun z => h2 z.1 z.2
theorem cb_i {b : Bool} {x y : Option β} (h1 : b = true → x = some r → G) (h2 : b = false → y = some r → G) : cb b x y = some r → G := fun q => (cb_e q).elim (fun z => h1 z.1 z.2) fun z => h2 z.1 z.2
theorem bnd_i {x : Option α} {f : α → Option β} (h : ∀ v, x = some v → f v = some r → G) : bnd x f = some r → G := fun q => by obtain ⟨v, h1, h2⟩ := bnd_e q; exact h v h1 h2
theorem idx_i {l : List α} {i : Int} {f : α → Option β} (h : ∀ v, 0 ≤ i → i < (l.length : Int) → l[i.toNat]? = some v → f v = some r → G) : bnd (idx l i) f = some r → G := fun q => by
  obtain ⟨v, h1, h2⟩ := bnd_e q
  obtain ⟨g1, g2, g3⟩ := idx_e h1
  exact h v g1 g2 g3 h2
theorem sat_i {s : ByteArray} {i : Int} {f : Int → Option β} (h : ∀ v, strAt s i = some (.d (.int .u8 v)) → f v = some r → G) : bnd (sat s i) f = some r → G := fun q => by
  obtain ⟨v, h1, h2⟩ := bnd_e q
  exact h v (sat_e h1) h2
end
end Go.Ev
namespace Go.Ev
section
variable (P : Program) (t e : TypeId) (st : Store)
def tkOne (P : Program) (t : TypeId) : Bool := match tk P t with | .one | .sl _ => true | _ => false
theorem tkOne_i : tkOne P t = (match tk P t with | .one | .sl _ => true | _ => false) := nr rfl
theorem hT_agg (t' : TypeId) (ds : List D) : hasT P t (.d (.agg t' ds)) = (t' == t && (match tk P t with | .agg _ _ => true | _ => false)) := nr rfl
theorem hT_vagg (t' : TypeId) (vs : List V) : hasT P t (.agg t' vs) = (t' == t && (match tk P t with | .agg _ _ => true | _ => false)) := nr rfl
theorem hT_int (k : IntKind) (n : Int) : hasT P t (.d (.int k n)) = tkOne P t := nr rfl
theorem hT_bool (b : Bool) : hasT P t (.d (.bool b)) = tkOne P t := nr rfl
theorem hT_str (s : ByteArray) : hasT P t (.d (.str s)) = tkOne P t := nr rfl
theorem hT_sl (ds : List D) : hasT P t (.d (.sl e ds)) = tkOne P t := nr rfl
theorem hT_ptr (x : D) : hasT P t (.d (.ptr x)) = tkOne P t := nr rfl
theorem hT_np : hasT P t (.d .np) = tkOne P t := nr rfl
theorem hT_p (k : Key) (ver i : Nat) (path : List (TypeId × Nat)) : hasT P t (.p k ver i path) = tkOne P t := nr rfl
theorem hT_rs (k : Key) (ver off len : Nat) (full : Bool) : hasT P t (.rs e k ver off len full) = tkOne P t := nr rfl
theorem hT_mp (k : Key) (ver : Nat) : hasT P t (.mp k ver) = tkOne P t := nr rfl
theorem hT_nils : hasT P t (.nils e) = tkOne P t := nr rfl
theorem hT_nila : hasT P t (.nila e) = tkOne P t := nr rfl
theorem hT_nilm : hasT P t .nilm = tkOne P t := nr rfl
theorem hT_fn (f : FuncId) (c : List V) : hasT P t (.fn f c) = tkOne P t := nr rfl
theorem hT_jk : hasT P t .jk = tkOne P t := nr rfl
theorem hT_gl (k : Key) (ver : Nat) (ws : List V) : hasT P t (gl e k ver ws) = tkOne P t := by cases ws <;> rfl
theorem allD_gl (k : Key) (ver : Nat) (ws r : List V) : allD (gl e k ver ws :: r) = none := by cases ws <;> rfl
theorem eO_sl (ds : List D) : elemsOf st (.d (.sl e ds)) = some (e, ds.map V.d) := nr rfl
theorem eO_nils : elemsOf st (.nils e) = some (e, []) := nr rfl
theorem eO_nila : elemsOf st (.nila e) = some (e, []) := nr rfl
theorem eO_rs (k : Key) (ver off len : Nat) (full : Bool) : elemsOf st (.rs e k ver off len full) = if (st k).ver = ver ∧ (st k).live = true ∧ off + len ≤ (st k).vs.length then some (e, ((st k).vs.drop off).take len) else none := nr rfl
theorem eT_sl (ds : List D) : elemT (.d (.sl e ds)) = some e := nr rfl
theorem eT_nils : elemT (.nils e) = some e := nr rfl
theorem eT_rs (k : Key) (ver off len : Nat) (full : Bool) : elemT (.rs e k ver off len full) = some e := nr rfl
theorem pL_str (s : ByteArray) : evPureB P .len [t] [.d (.str s)] = if ek P t = .str then some (.d (.int .i64 s.size)) else none := nr rfl
theorem pL_sl (ds : List D) : evPureB P .len [t] [.d (.sl e ds)] = (match tk P t with | .sl _ => some (.d (.int .i64 ds.length)) | _ => none) := by simp only [evPureB, lenV]; cases tk P t <;> rfl
theorem pL_rs (k : Key) (ver off len : Nat) (full : Bool) : evPureB P .len [t] [.rs e k ver off len full] = (match tk P t with | .sl _ => some (.d (.int .i64 len)) | _ => none) := by simp only [evPureB, lenV]; cases tk P t <;> rfl
theorem pL_nils : evPureB P .len [t] [.nils e] = (match tk P t with | .sl _ => some (.d (.int .i64 0)) | _ => none) := by simp only [evPureB, lenV]; cases tk P t <;> rfl
theorem pL_nila : evPureB P .len [t] [.nila e] = (match tk P t with | .sl _ => some (.d (.int .i64 0)) | _ => none) := by simp only [evPureB, lenV]; cases tk P t <;> rfl
theorem evLen_gl (Γ : Specs) (ts : List TypeId) (k : Key) (ver : Nat) (ws : List V) : evLen P Γ st ts [gl e k ver ws] = evPureB P .len ts [gl e k ver ws] := by cases ws <;> rfl
theorem nl_nils (op : BinOp) : evNil op (.nils e) = (match op with | .eql => some (.d (.bool true)) | .neq => some (.d (.bool false)) | _ => none) := by cases op <;> rfl
theorem pL_min (ts : List TypeId) (k : IntKind) (a : Int) (r : List V) : evPureB P .min ts (.d (.int k a) :: r) = foldI minI k r (some a) := nr rfl
theorem pL_max (ts : List TypeId) (k : IntKind) (a : Int) (r : List V) : evPureB P .max ts (.d (.int k a) :: r) = foldI maxI k r (some a) := nr rfl
theorem noTup_gl (k : Key) (ver : Nat) (ws r : List V) : noTup (gl e k ver ws :: r) = noTup r := by cases ws <;> rfl
end
end Go.Ev
namespace Go.Ev
/-! ### rows that are turned to data -/
section
variable (kp : Bool) (st0 st : Store) (lv : Nat) (K : List Bool)
theorem frzO_n (m : List Bool) (env : List V) : frzO kp lv m K (some (.normal, env, st)) = (match frzL kp st lv K m env st with | some st' => some (.normal, env, killL lv K 0 st') | none => none) := nr rfl
theorem frzO_e (m : List Bool) (i : Nat) (env : List V) : frzO kp lv m K (some (.exit i, env, st)) = some (.exit i, env, st) := nr rfl
theorem frzO_r (m : List Bool) (env : List V) : frzO kp lv m K (some (.ret, env, st)) = some (.ret, env, st) := nr rfl
theorem frzO_0 (m : List Bool) : frzO kp lv m K none = none := nr rfl
theorem mb_z (i : Nat) (js : List Nat) : mb 0 i js = [] := nr rfl
theorem mb_0 (n i : Nat) : mb (n + 1) i [] = false :: mb n (i + 1) [] := nr rfl
theorem mb_s (n i j : Nat) (r : List Nat) : mb (n + 1) i (j :: r) = if i = j then true :: mb n (i + 1) r else false :: mb n (i + 1) (j :: r) := nr rfl
theorem frzL_t (m : List Bool) (v : V) (vs : List V) : frzL kp st0 lv K (true :: m) (v :: vs) st = (match frzT kp st0 st lv K v with | some st' => frzL kp st0 lv K m vs st' | none => none) := nr rfl
theorem frzL_f (m : List Bool) (v : V) (vs : List V) : frzL kp st0 lv K (false :: m) (v :: vs) st = frzL kp st0 lv K m vs st := nr rfl
theorem frzL_0 (vs : List V) : frzL kp st0 lv K [] vs st = some st := nr rfl
theorem frzT_nils (e : TypeId) : frzT kp st0 st lv K (.nils e) = some st := nr rfl
theorem frzT_rs (e : TypeId) (k : Key) (ver off len : Nat) (full : Bool) : frzT kp st0 st lv K (.rs e k ver off len full) = if (st0 k).ver = ver then frzK kp st0 st lv K k else none := nr rfl
theorem frzT_p (k : Key) (ver i : Nat) (path : List (TypeId × Nat)) : frzT kp st0 st lv K (.p k ver i path) = if (st0 k).ver = ver then frzK kp st0 st lv K k else none := nr rfl
theorem frzK_i (k : Key) : frzK kp st0 st lv K k = if (st0 k).live = true ∧ keyIn lv K k = false ∧ refsIn.refsIns lv K (st0 k).vs = true then (match V.view.views st0 (st0 k).vs with | some ds => some (upd st k ⟨(st0 k).ver, (st0 k).e, bif kp then keepL (st0 k).vs ds else ds.map V.d, true⟩) | none => none) else none := nr rfl
theorem keyIn_i (a d : Nat) : keyIn lv K (a, d) = (a == lv && K.getD d false) := nr rfl
theorem rI_nil : refsIn.refsIns lv K [] = true := nr rfl
theorem rI_cons (v : V) (vs : List V) : refsIn.refsIns lv K (v :: vs) = (refsIn lv K v && refsIn.refsIns lv K vs) := nr rfl
theorem rI_row {α : Type} (f : α → D) : ∀ l : List α, refsIn.refsIns lv K (rowV f l) = true
  | [] => rfl
  | x :: r => by rw [rowV_cons, rI_cons, rI_row f r]; rfl
theorem rI_app : ∀ a b : List V, refsIn.refsIns lv K (a ++ b) = (refsIn.refsIns lv K a && refsIn.refsIns lv K b)
  | [], b => by simp [refsIn.refsIns]
  | x :: r, b => by rw [List.cons_append, rI_cons, rI_cons, rI_app r b, Bool.and_assoc]
theorem r_d (x : D) : refsIn lv K (.d x) = true := nr rfl
theorem r_nils (e : TypeId) : refsIn lv K (.nils e) = true := nr rfl
theorem r_nila (e : TypeId) : refsIn lv K (.nila e) = true := nr rfl
theorem r_agg (t : TypeId) (vs : List V) : refsIn lv K (.agg t vs) = refsIn.refsIns lv K vs := nr rfl
theorem r_rs (e : TypeId) (k : Key) (ver off len : Nat) (full : Bool) : refsIn lv K (.rs e k ver off len full) = keyIn lv K k := nr rfl
theorem r_gl {e : TypeId} {k : Key} {ver : Nat} {ws : List V} (h : keyIn lv K k = true) : refsIn lv K (gl e k ver ws) = true := by cases ws with
  | nil => rfl
  | cons v vs => exact h
theorem vw_row {α : Type} (f : α → D) : ∀ l : List α, V.view.views st (rowV f l) = some (l.map f)
  | [] => rfl
  | x :: r => by rw [rowV_cons]; simp only [V.view.views, V.view, vw_row f r, List.map_cons]
def appO {α : Type} : Option (List α) → Option (List α) → Option (List α)
  | some a, some b => some (a ++ b)
  | _, _ => none
theorem appO_s {α : Type} (a b : List α) : appO (some a) (some b) = some (a ++ b) := nr rfl
theorem vw_app : ∀ a b : List V, V.view.views st (a ++ b) = appO (V.view.views st a) (V.view.views st b)
  | [], b => by
    rw [List.nil_append]
    show _ = appO (some []) (V.view.views st b)
    cases V.view.views st b <;> rfl
  | x :: r, b => by
    rw [List.cons_append]
    simp only [V.view.views, vw_app r b]
    cases V.view st x <;> cases V.view.views st r <;> cases V.view.views st b <;> rfl
end
theorem frzT_gl {st : Store} {lv : Nat} {K : List Bool} {e : TypeId} {k : Key} {ver : Nat} {α : Type} {f : α → D} {l : List α} (h1 : (st k).ver = ver) (h2 : GlB (st k) e (rowV f l)) (h3 : keyIn lv K k = false) : frzT false st st lv K (gl e k ver (rowV f l)) = some st := by
  by_cases hl : l = []
  · subst hl; rfl
  · obtain ⟨g1, g2, g3⟩ := h2 (by simpa [rowV] using hl)
    rw [gl_pos (by simpa [rowV] using hl), frzT_rs, if_pos h1, frzK_i, if_pos ⟨g3, h3, by rw [g2, rI_row]⟩, g2, vw_row]
    simp only
    congr 1
    funext j
    unfold upd
    cases hq : keq j k
    · rfl
    · have : j = k := by unfold keq at hq; simp only [Bool.and_eq_true, beq_iff_eq] at hq; exact Prod.ext hq.1 hq.2
      subst this
      rw [map_row, ← g2]
      show (⟨(st j).ver, (st j).e, (st j).vs, true⟩ : Blk) = st j
      rw [← g3]
end Go.Ev
namespace Go.Ev
/-! ### reading data back, pointers to data -/
def cP {α : Type} (c : Cod α) : Cod α := ⟨fun x => .ptr (c.e x), fun x y h => by
  simp only [D.ptr.injEq] at h
  exact c.inj _ _ h⟩
structure Dec {α : Type} (c : Cod α) where
  f : D → Option α
  ok : ∀ x y, f x = some y → c.e y = x
structure DecL {α : Type} (c : CodL α) where
  f : List D → Option α
  ok : ∀ x y, f x = some y → c.e y = x
def dI (k : IntKind) : Dec (cI k) := ⟨fun x => match x with | .int k' n => if k = k' then some n else none | _ => none, fun x y h => by
  cases x <;> simp only [reduceCtorEq] at h
  split at h
  · rename_i hk; cases h; subst hk; rfl
  · cases h⟩
def dB : Dec cB := ⟨fun x => match x with | .bool b => some b | _ => none, fun x y h => by
  cases x <;> simp only [reduceCtorEq] at h
  cases h; rfl⟩
def dS : Dec cS := ⟨fun x => match x with | .str s => some s | _ => none, fun x y h => by
  cases x <;> simp only [reduceCtorEq] at h
  cases h; rfl⟩
def decMap {α : Type} (f : D → Option α) : List D → Option (List α)
  | [] => some []
  | x :: r => match f x, decMap f r with
    | some y, some l => some (y :: l)
    | _, _ => none
theorem decMap_ok {α : Type} {c : Cod α} (d : Dec c) : ∀ (xs : List D) (l : List α), decMap d.f xs = some l → l.map c.e = xs
  | [], l, h => by cases h; rfl
  | x :: r, l, h => by
    simp only [decMap] at h
    split at h
    · rename_i y q h1 h2
      cases h
      rw [List.map_cons, d.ok _ _ h1, decMap_ok d r q h2]
    · cases h
def dL {α : Type} (t : TypeId) {c : Cod α} (d : Dec c) : Dec (cL t c) := ⟨fun x => match x with | .sl t' xs => if t = t' then decMap d.f xs else none | _ => none, fun x y h => by
  cases x <;> simp only [reduceCtorEq] at h
  split at h
  · rename_i hk; subst hk; exact congrArg (D.sl t) (decMap_ok d _ _ h)
  · cases h⟩
def dA {α : Type} (t : TypeId) {c : CodL α} (d : DecL c) : Dec (cA t c) := ⟨fun x => match x with | .agg t' xs => if t = t' then d.f xs else none | _ => none, fun x y h => by
  cases x <;> simp only [reduceCtorEq] at h
  split at h
  · rename_i hk; subst hk; exact congrArg (D.agg t) (d.ok _ _ h)
  · cases h⟩
def dP {α : Type} {c : Cod α} (d : Dec c) : Dec (cP c) := ⟨fun x => match x with | .ptr x => d.f x | _ => none, fun x y h => by
  cases x <;> simp only [reduceCtorEq] at h
  exact congrArg D.ptr (d.ok _ _ h)⟩
def dNil : DecL cNil := ⟨fun x => match x with | [] => some () | _ => none, fun x y h => by
  cases x <;> simp only [reduceCtorEq] at h
  rfl⟩
def dCons {α β : Type} {c : Cod α} {r : CodL β} (d : Dec c) (e : DecL r) : DecL (cCons c r) := ⟨fun x => match x with
  | x :: xs => (match d.f x, e.f xs with | some y, some z => some (y, z) | _, _ => none)
  | [] => none, fun x y h => by
  cases x with
  | nil => cases h
  | cons x xs =>
    simp only at h
    split at h
    · rename_i y z h1 h2
      cases h
      show c.e _ :: r.e _ = _
      rw [d.ok _ _ h1, e.ok _ _ h2]
    · cases h⟩
def specK {α β : Type} {c : CodL α} (d : DecL c) (p : α → Option β) (res : β → List D) : Spec := ⟨fun xs => match d.f xs with
  | some x => (match p x with | some r => some (res r) | none => none)
  | none => none⟩
theorem specK_ok {P : Program} {Γ : Specs} {T : Table} {f : FuncId} {α β : Type} {c : CodL α} (d : DecL c) {p : α → Option β} {res : β → List D} (hm : P.follows .mixedOrders = true) (hΓ : ∀ g s, look Γ g = some s → SpecOk P g s) (hT : TableOk P (Γ.map (·.1)) T)
    (h : ∀ x r, p x = some r → ∃ L n, evTop P Γ T L n f (c.e x) = some (res r)) : SpecOk P f (specK d p res) := spec_of_ev hm hΓ hT fun xs rs hr => by
  simp only [specK] at hr
  split at hr
  · rename_i x hx
    split at hr
    · rename_i r hp
      cases hr
      rw [← d.ok _ _ hx]
      exact h x r hp
    · cases hr
  · cases hr
/-! ### maps of numbers -/
def mapV {α : Type} (f : α → D) : List (Int × α) → List V
  | [] => []
  | p :: r => .d (.int .i64 p.1) :: .d (f p.2) :: mapV f r
theorem ag_t (lv i : Nat) (al : List Bool) (v : V) (vs : List V) : aenvG lv i (true :: al) (v :: vs) = .p (lv, i) 0 0 [] :: aenvG lv (i + 1) al vs := nr rfl
theorem ag_f (lv i : Nat) (al : List Bool) (v : V) (vs : List V) : aenvG lv i (false :: al) (v :: vs) = v :: aenvG lv (i + 1) al vs := nr rfl
theorem ag_0 (lv i : Nat) (vs : List V) : aenvG lv i [] vs = vs := by cases vs <;> rfl
theorem ag_n (lv i : Nat) (b : Bool) (al : List Bool) : aenvG lv i (b :: al) [] = [] := by cases b <;> rfl
theorem mx_u64 : IntKind.max .u64 = 18446744073709551615 := by decide
theorem mx_u32 : IntKind.max .u32 = 4294967295 := by decide
theorem mx_u16 : IntKind.max .u16 = 65535 := by decide
theorem mx_u8 : IntKind.max .u8 = 255 := by decide
theorem sg_i64 : IntKind.i64.signed = true := nr rfl
theorem sg_i32 : IntKind.i32.signed = true := nr rfl
theorem sg_i16 : IntKind.i16.signed = true := nr rfl
theorem sg_i8 : IntKind.i8.signed = true := nr rfl
theorem sg_u64 : IntKind.u64.signed = false := nr rfl
theorem sg_u32 : IntKind.u32.signed = false := nr rfl
theorem sg_u16 : IntKind.u16.signed = false := nr rfl
theorem sg_u8 : IntKind.u8.signed = false := nr rfl
theorem mapE_i (t : TypeId) : mapE t = 1000000 + t := nr rfl
theorem mapV_nil {α : Type} (f : α → D) : mapV f ([] : List (Int × α)) = [] := nr rfl
def mapG {α : Type} : List (Int × α) → Int → Option α
  | [], _ => none
  | p :: r, k => if k = p.1 then some p.2 else mapG r k
def mapP {α : Type} : List (Int × α) → Int → α → List (Int × α)
  | [], k, v => [(k, v)]
  | p :: r, k, v => if k = p.1 then (p.1, v) :: r else p :: mapP r k v
def mp2 (vs : List V) (k : Int) (x : V) : List V := (mput vs (.int .i64 k) x).getD []
theorem mget_map {α : Type} (f : α → D) (k : Int) : ∀ l : List (Int × α), mget (mapV f l) (.int .i64 k) = some ((mapG l k).map fun v => V.d (f v))
  | [] => rfl
  | p :: r => by
    have ih := mget_map f k r
    simp only [mapV, mget, sameK, if_true, mapG]
    by_cases h : k = p.1
    · simp [h]
    · simp [h, ih]
theorem mputs {α : Type} (f : α → D) (k : Int) (v : α) : ∀ l : List (Int × α), mput (mapV f l) (.int .i64 k) (.d (f v)) = some (mapV f (mapP l k v))
  | [] => rfl
  | p :: r => by
    have ih := mputs f k v r
    simp only [mapV, mput, sameK, if_true, mapP]
    by_cases h : k = p.1
    · simp [h, mapV]
    · simp [h, ih, consP, mapV]
theorem mputx {α : Type} (f : α → D) (k : Int) (x : V) : ∀ l : List (Int × α), ∃ vs, mput (mapV f l) (.int .i64 k) x = some vs
  | [] => ⟨_, rfl⟩
  | p :: r => by
    obtain ⟨vs, ih⟩ := mputx f k x r
    simp only [mapV, mput, sameK, if_true]
    by_cases h : k = p.1
    · simp [h]
    · simp [h, ih, consP]
theorem mput_map {α : Type} (f : α → D) (k : Int) (x : V) (l : List (Int × α)) : mput (mapV f l) (.int .i64 k) x = some (mp2 (mapV f l) k x) := by
  obtain ⟨vs, h⟩ := mputx f k x l
  rw [mp2, h]; rfl
theorem mapV_put {α : Type} (f : α → D) (l : List (Int × α)) (k : Int) (v : α) : mapV f (mapP l k v) = mp2 (mapV f l) k (.d (f v)) := by
  rw [mp2, mputs]; rfl
theorem mapV_len {α : Type} (f : α → D) : ∀ l : List (Int × α), (mapV f l).length = 2 * l.length
  | [] => rfl
  | p :: r => by simp [mapV, mapV_len f r]; omega
theorem mapV_half {α : Type} (f : α → D) (l : List (Int × α)) : (mapV f l).length / 2 = l.length := by rw [mapV_len]; omega
def mc {α β : Type} (o : Option α) (a : α → Option β) (b : Option β) : Option β := match o with
  | some v => a v
  | none => b
theorem mc_i {α β : Type} {G : Prop} {r : β} {o : Option α} {a : α → Option β} {b : Option β} (h1 : ∀ v, o = some v → a v = some r → G) (h2 : o = none → b = some r → G) : mc o a b = some r → G := by
  cases o with
  | none => exact h2 rfl
  | some v => exact h1 v rfl
theorem mc_s {α β : Type} (v : α) (a : α → Option β) (b : Option β) : mc (some v) a b = a v := rfl
theorem mc_n {α β : Type} (a : α → Option β) (b : Option β) : mc none a b = b := rfl
def nullS : Spec := ⟨fun _ => none⟩
theorem nullS_ok {P : Program} {f : FuncId} : SpecOk P f nullS := by
  intro xs rs S w vals h
  cases h
end Go.Ev
end
section
set_option linter.unusedVariables false
set_option linter.unusedSimpArgs false
namespace Go.Pl
open Go.Ev Go.IntKind
theorem w64 {x : Int} (h : -9223372036854775808 ≤ x ∧ x < 9223372036854775808) : i64.wrap x = x := IntWalk.i64_in _ (by omega)
theorem maxRow_v : maxRow = 140737488355328 := rfl
theorem idx_app {α : Type} (p : List α) (x : α) (s : List α) : idx (p ++ x :: s) (p.length : Int) = some x := by rw [idx_nat]; simp
theorem idx_at {α : Type} {l : List α} {i : Nat} (h : i < l.length) : idx l (i : Int) = some l[i] := by rw [idx_nat]; simp [h]
theorem idx_z {α : Type} (x : α) (s : List α) : idx (x :: s) 0 = some x := rfl
theorem ite_t {c : Prop} [Decidable c] {α : Type} {a b : α} (h : c) : (if c then a else b) = a := if_pos h
theorem ite_f {c : Prop} [Decidable c] {α : Type} {a b : α} (h : ¬ c) : (if c then a else b) = b := if_neg h
theorem cb_d {p : Prop} [Decidable p] {α : Type} (x y : Option α) : cb (decide p) x y = if p then x else y := by
  by_cases h : p
  · rw [decide_eq_true h, cb_t, if_pos h]
  · rw [decide_eq_false h, cb_f, if_neg h]
theorem cb_n {b : Bool} {α : Type} (x y : Option α) : cb (!b) x y = cb b y x := by cases b <;> rfl
theorem cb_v {b : Bool} {α : Type} (x y : Option α) : cb b x y = if b = true then x else y := by cases b <;> rfl
theorem min_v (a b : Int) : minI a b = min a b := by unfold minI; split <;> omega
theorem max_v (a b : Int) : maxI a b = max a b := by unfold maxI; split <;> omega
end Go.Pl
end
section
set_option linter.unusedVariables false
set_option linter.unusedSimpArgs false
set_option maxRecDepth 100000
namespace Go.Proofs.Ytnojehmbiceceaa.Ty
open Go.Ev
theorem tk3 : tk Try.prog 3 = .one := by kernel_rfl
theorem ik3 : intK Try.prog 3 = some .i64 := by kernel_rfl
theorem ek3 : ek Try.prog 3 = .int := by kernel_rfl
theorem zv3 : zeroV Try.prog 3 = some (.d (.int .i64 0)) := by kernel_rfl
theorem by3 : Try.prog.bytesOf 3 = 8 := by kernel_rfl
theorem so3 : szOf Try.prog 3 = 1 := by kernel_rfl
theorem tk4 : tk Try.prog 4 = .one := by kernel_rfl
theorem ub4 : Try.prog.underlying 4 = some .bool := by kernel_rfl
theorem ek4 : ek Try.prog 4 = .bool := by kernel_rfl
theorem zv4 : zeroV Try.prog 4 = some (.d (.bool false)) := by kernel_rfl
theorem by4 : Try.prog.bytesOf 4 = 1 := by kernel_rfl
theorem so4 : szOf Try.prog 4 = 1 := by kernel_rfl
theorem tk5 : tk Try.prog 5 = .one := by kernel_rfl
theorem ik5 : intK Try.prog 5 = some .u8 := by kernel_rfl
theorem ek5 : ek Try.prog 5 = .int := by kernel_rfl
theorem zv5 : zeroV Try.prog 5 = some (.d (.int .u8 0)) := by kernel_rfl
theorem by5 : Try.prog.bytesOf 5 = 1 := by kernel_rfl
theorem so5 : szOf Try.prog 5 = 1 := by kernel_rfl
theorem tk9 : tk Try.prog 9 = .one := by kernel_rfl
theorem ek9 : ek Try.prog 9 = .str := by kernel_rfl
theorem by9 : Try.prog.bytesOf 9 = 16 := by kernel_rfl
theorem so9 : szOf Try.prog 9 = 1 := by kernel_rfl
theorem tk22 : tk Try.prog 22 = .sl 3 := by kernel_rfl
theorem zv22 : zeroV Try.prog 22 = some (.nils 3) := by kernel_rfl
theorem by22 : Try.prog.bytesOf 22 = 24 := by kernel_rfl
theorem so22 : szOf Try.prog 22 = 1 := by kernel_rfl
theorem tk24 : tk Try.prog 24 = .one := by kernel_rfl
theorem ik24 : intK Try.prog 24 = some .i64 := by kernel_rfl
theorem ek24 : ek Try.prog 24 = .int := by kernel_rfl
theorem zv24 : zeroV Try.prog 24 = some (.d (.int .i64 0)) := by kernel_rfl
theorem by24 : Try.prog.bytesOf 24 = 8 := by kernel_rfl
theorem so24 : szOf Try.prog 24 = 1 := by kernel_rfl
theorem tk27 : tk Try.prog 27 = .one := by kernel_rfl
theorem ik27 : intK Try.prog 27 = some .i64 := by kernel_rfl
theorem ek27 : ek Try.prog 27 = .int := by kernel_rfl
theorem zv27 : zeroV Try.prog 27 = some (.d (.int .i64 0)) := by kernel_rfl
theorem by27 : Try.prog.bytesOf 27 = 8 := by kernel_rfl
theorem so27 : szOf Try.prog 27 = 1 := by kernel_rfl
theorem tk35 : tk Try.prog 35 = .agg 3 false := by kernel_rfl
theorem ct35 : compTs Try.prog 35 = [24, 24, 4] := by kernel_rfl
theorem ek35 : ek Try.prog 35 = .agg := by kernel_rfl
theorem zv35 : zeroV Try.prog 35 = some (.d (.agg 35 [.int .i64 0, .int .i64 0, .bool false])) := by kernel_rfl
theorem by35 : Try.prog.bytesOf 35 = 24 := by kernel_rfl
theorem so35 : szOf Try.prog 35 = 3 := by kernel_rfl
theorem tk62 : tk Try.prog 62 = .one := by kernel_rfl
theorem ik62 : intK Try.prog 62 = some .i64 := by kernel_rfl
theorem ek62 : ek Try.prog 62 = .int := by kernel_rfl
theorem zv62 : zeroV Try.prog 62 = some (.d (.int .i64 0)) := by kernel_rfl
theorem by62 : Try.prog.bytesOf 62 = 8 := by kernel_rfl
theorem so62 : szOf Try.prog 62 = 1 := by kernel_rfl
theorem tk64 : tk Try.prog 64 = .agg 3 false := by kernel_rfl
theorem ct64 : compTs Try.prog 64 = [62, 62, 4] := by kernel_rfl
theorem ek64 : ek Try.prog 64 = .agg := by kernel_rfl
theorem zv64 : zeroV Try.prog 64 = some (.d (.agg 64 [.int .i64 0, .int .i64 0, .bool false])) := by kernel_rfl
theorem by64 : Try.prog.bytesOf 64 = 24 := by kernel_rfl
theorem so64 : szOf Try.prog 64 = 3 := by kernel_rfl
theorem tk66 : tk Try.prog 66 = .agg 3 false := by kernel_rfl
theorem ct66 : compTs Try.prog 66 = [64, 64, 64] := by kernel_rfl
theorem ek66 : ek Try.prog 66 = .agg := by kernel_rfl
theorem zv66 : zeroV Try.prog 66 = some (.d (.agg 66 [.agg 64 [.int .i64 0, .int .i64 0, .bool false], .agg 64 [.int .i64 0, .int .i64 0, .bool false], .agg 64 [.int .i64 0, .int .i64 0, .bool false]])) := by kernel_rfl
theorem by66 : Try.prog.bytesOf 66 = 72 := by kernel_rfl
theorem so66 : szOf Try.prog 66 = 9 := by kernel_rfl
theorem tk70 : tk Try.prog 70 = .sl 89 := by kernel_rfl
theorem zv70 : zeroV Try.prog 70 = some (.nils 89) := by kernel_rfl
theorem by70 : Try.prog.bytesOf 70 = 24 := by kernel_rfl
theorem so70 : szOf Try.prog 70 = 1 := by kernel_rfl
theorem tk72 : tk Try.prog 72 = .one := by kernel_rfl
theorem ik72 : intK Try.prog 72 = some .i64 := by kernel_rfl
theorem ek72 : ek Try.prog 72 = .int := by kernel_rfl
theorem zv72 : zeroV Try.prog 72 = some (.d (.int .i64 0)) := by kernel_rfl
theorem by72 : Try.prog.bytesOf 72 = 8 := by kernel_rfl
theorem so72 : szOf Try.prog 72 = 1 := by kernel_rfl
theorem tk87 : tk Try.prog 87 = .agg 3 false := by kernel_rfl
theorem ct87 : compTs Try.prog 87 = [72, 72, 4] := by kernel_rfl
theorem ek87 : ek Try.prog 87 = .agg := by kernel_rfl
theorem zv87 : zeroV Try.prog 87 = some (.d (.agg 87 [.int .i64 0, .int .i64 0, .bool false])) := by kernel_rfl
theorem by87 : Try.prog.bytesOf 87 = 24 := by kernel_rfl
theorem so87 : szOf Try.prog 87 = 3 := by kernel_rfl
theorem tk89 : tk Try.prog 89 = .agg 6 false := by kernel_rfl
theorem ct89 : compTs Try.prog 89 = [3, 66, 35, 87, 22, 3] := by kernel_rfl
theorem zv89 : zeroV Try.prog 89 = some (.agg 89 [.d (.int .i64 0), .d (.agg 66 [.agg 64 [.int .i64 0, .int .i64 0, .bool false], .agg 64 [.int .i64 0, .int .i64 0, .bool false], .agg 64 [.int .i64 0, .int .i64 0, .bool false]]), .d (.agg 35 [.int .i64 0, .int .i64 0, .bool false]), .d (.agg 87 [.int .i64 0, .int .i64 0, .bool false]), .nils 3, .d (.int .i64 0)]) := by kernel_rfl
theorem by89 : Try.prog.bytesOf 89 = 160 := by kernel_rfl
theorem so89 : szOf Try.prog 89 = 18 := by kernel_rfl
theorem tk91 : tk Try.prog 91 = .one := by kernel_rfl
theorem zv91 : zeroV Try.prog 91 = some (.jk) := by kernel_rfl
theorem by91 : Try.prog.bytesOf 91 = 8 := by kernel_rfl
theorem so91 : szOf Try.prog 91 = 1 := by kernel_rfl
theorem tk93 : tk Try.prog 93 = .sl 118 := by kernel_rfl
theorem zv93 : zeroV Try.prog 93 = some (.nils 118) := by kernel_rfl
theorem by93 : Try.prog.bytesOf 93 = 24 := by kernel_rfl
theorem so93 : szOf Try.prog 93 = 1 := by kernel_rfl
theorem tk100 : tk Try.prog 100 = .sl 93 := by kernel_rfl
theorem zv100 : zeroV Try.prog 100 = some (.nils 93) := by kernel_rfl
theorem by100 : Try.prog.bytesOf 100 = 24 := by kernel_rfl
theorem so100 : szOf Try.prog 100 = 1 := by kernel_rfl
theorem tk102 : tk Try.prog 102 = .agg 1 false := by kernel_rfl
theorem ct102 : compTs Try.prog 102 = [100] := by kernel_rfl
theorem zv102 : zeroV Try.prog 102 = some (.agg 102 [.nils 93]) := by kernel_rfl
theorem by102 : Try.prog.bytesOf 102 = 24 := by kernel_rfl
theorem so102 : szOf Try.prog 102 = 1 := by kernel_rfl
theorem tk118 : tk Try.prog 118 = .agg 2 false := by kernel_rfl
theorem ct118 : compTs Try.prog 118 = [3, 89] := by kernel_rfl
theorem zv118 : zeroV Try.prog 118 = some (.agg 118 [.d (.int .i64 0), .agg 89 [.d (.int .i64 0), .d (.agg 66 [.agg 64 [.int .i64 0, .int .i64 0, .bool false], .agg 64 [.int .i64 0, .int .i64 0, .bool false], .agg 64 [.int .i64 0, .int .i64 0, .bool false]]), .d (.agg 35 [.int .i64 0, .int .i64 0, .bool false]), .d (.agg 87 [.int .i64 0, .int .i64 0, .bool false]), .nils 3, .d (.int .i64 0)]]) := by kernel_rfl
theorem by118 : Try.prog.bytesOf 118 = 168 := by kernel_rfl
theorem so118 : szOf Try.prog 118 = 19 := by kernel_rfl
theorem tk133 : tk Try.prog 133 = .one := by kernel_rfl
theorem ik133 : intK Try.prog 133 = some .u64 := by kernel_rfl
theorem ek133 : ek Try.prog 133 = .int := by kernel_rfl
theorem zv133 : zeroV Try.prog 133 = some (.d (.int .u64 0)) := by kernel_rfl
theorem by133 : Try.prog.bytesOf 133 = 8 := by kernel_rfl
theorem so133 : szOf Try.prog 133 = 1 := by kernel_rfl
theorem tk147 : tk Try.prog 147 = .one := by kernel_rfl
theorem ik147 : intK Try.prog 147 = some .u64 := by kernel_rfl
theorem ek147 : ek Try.prog 147 = .int := by kernel_rfl
theorem zv147 : zeroV Try.prog 147 = some (.d (.int .u64 0)) := by kernel_rfl
theorem by147 : Try.prog.bytesOf 147 = 8 := by kernel_rfl
theorem so147 : szOf Try.prog 147 = 1 := by kernel_rfl
theorem tk168 : tk Try.prog 168 = .agg 3 true := by kernel_rfl
theorem ct168 : compTs Try.prog 168 = [64, 64, 64] := by kernel_rfl
theorem zv168 : zeroV Try.prog 168 = some (.d (.agg 168 [.agg 64 [.int .i64 0, .int .i64 0, .bool false], .agg 64 [.int .i64 0, .int .i64 0, .bool false], .agg 64 [.int .i64 0, .int .i64 0, .bool false]])) := by kernel_rfl
theorem by168 : Try.prog.bytesOf 168 = 72 := by kernel_rfl
theorem so168 : szOf Try.prog 168 = 9 := by kernel_rfl
theorem tk195 : tk Try.prog 195 = .sl 27 := by kernel_rfl
theorem zv195 : zeroV Try.prog 195 = some (.nils 27) := by kernel_rfl
theorem by195 : Try.prog.bytesOf 195 = 24 := by kernel_rfl
theorem so195 : szOf Try.prog 195 = 1 := by kernel_rfl
theorem tk206 : tk Try.prog 206 = .one := by kernel_rfl
theorem mt206 : mapT Try.prog 206 = some (3, 89) := by kernel_rfl
theorem sm206 : szOf Try.prog 1000206 = 0 := by kernel_rfl
theorem zw206_89 : zeroW Try.prog 89 = some (.agg 89 [.d (.int .i64 0), .d (.agg 66 [.agg 64 [.int .i64 0, .int .i64 0, .bool false], .agg 64 [.int .i64 0, .int .i64 0, .bool false], .agg 64 [.int .i64 0, .int .i64 0, .bool false]]), .d (.agg 35 [.int .i64 0, .int .i64 0, .bool false]), .d (.agg 87 [.int .i64 0, .int .i64 0, .bool false]), .nils 3, .d (.int .i64 0)]) := by kernel_rfl
theorem zv206 : zeroV Try.prog 206 = some (.nilm) := by kernel_rfl
theorem by206 : Try.prog.bytesOf 206 = 8 := by kernel_rfl
theorem so206 : szOf Try.prog 206 = 1 := by kernel_rfl
theorem tk216 : tk Try.prog 216 = .one := by kernel_rfl
theorem zv216 : zeroV Try.prog 216 = some (.jk) := by kernel_rfl
theorem by216 : Try.prog.bytesOf 216 = 8 := by kernel_rfl
theorem so216 : szOf Try.prog 216 = 1 := by kernel_rfl
theorem tk217 : tk Try.prog 217 = .one := by kernel_rfl
theorem zv217 : zeroV Try.prog 217 = some (.jk) := by kernel_rfl
theorem by217 : Try.prog.bytesOf 217 = 8 := by kernel_rfl
theorem so217 : szOf Try.prog 217 = 1 := by kernel_rfl
theorem tk258 : tk Try.prog 258 = .one := by kernel_rfl
theorem zv258 : zeroV Try.prog 258 = some (.jk) := by kernel_rfl
theorem by258 : Try.prog.bytesOf 258 = 8 := by kernel_rfl
theorem so258 : szOf Try.prog 258 = 1 := by kernel_rfl
theorem tk270 : tk Try.prog 270 = .one := by kernel_rfl
theorem ik270 : intK Try.prog 270 = some .i64 := by kernel_rfl
theorem ek270 : ek Try.prog 270 = .int := by kernel_rfl
theorem zv270 : zeroV Try.prog 270 = some (.d (.int .i64 0)) := by kernel_rfl
theorem by270 : Try.prog.bytesOf 270 = 8 := by kernel_rfl
theorem so270 : szOf Try.prog 270 = 1 := by kernel_rfl
theorem tk279 : tk Try.prog 279 = .one := by kernel_rfl
theorem ik279 : intK Try.prog 279 = some .u32 := by kernel_rfl
theorem ek279 : ek Try.prog 279 = .int := by kernel_rfl
theorem zv279 : zeroV Try.prog 279 = some (.d (.int .u32 0)) := by kernel_rfl
theorem by279 : Try.prog.bytesOf 279 = 4 := by kernel_rfl
theorem so279 : szOf Try.prog 279 = 1 := by kernel_rfl
theorem tk301 : tk Try.prog 301 = .one := by kernel_rfl
theorem ik301 : intK Try.prog 301 = some .u64 := by kernel_rfl
theorem ek301 : ek Try.prog 301 = .int := by kernel_rfl
theorem zv301 : zeroV Try.prog 301 = some (.d (.int .u64 0)) := by kernel_rfl
theorem by301 : Try.prog.bytesOf 301 = 8 := by kernel_rfl
theorem so301 : szOf Try.prog 301 = 1 := by kernel_rfl
theorem tk305 : tk Try.prog 305 = .one := by kernel_rfl
theorem ek305 : ek Try.prog 305 = .ptr := by kernel_rfl
theorem zv305 : zeroV Try.prog 305 = some (.d (.np)) := by kernel_rfl
theorem by305 : Try.prog.bytesOf 305 = 8 := by kernel_rfl
theorem so305 : szOf Try.prog 305 = 1 := by kernel_rfl
theorem tk311 : tk Try.prog 311 = .one := by kernel_rfl
theorem ek311 : ek Try.prog 311 = .ptr := by kernel_rfl
theorem zv311 : zeroV Try.prog 311 = some (.d (.np)) := by kernel_rfl
theorem by311 : Try.prog.bytesOf 311 = 8 := by kernel_rfl
theorem so311 : szOf Try.prog 311 = 1 := by kernel_rfl
def k22 : Cod (List Int) := cL 3 (cI .i64)
theorem k22_e (y : List Int) : k22.e y = .sl 3 (y.map (D.int .i64)) := nr rfl
def k35 : Cod (Int × Int × Bool × Unit) := cA 35 (cCons (cI .i64) (cCons (cI .i64) (cCons cB cNil)))
theorem k35_e (y : Int × Int × Bool × Unit) : k35.e y = .agg 35 [.int .i64 y.1, .int .i64 y.2.1, .bool y.2.2.1] := nr rfl
def k64 : Cod (Int × Int × Bool × Unit) := cA 64 (cCons (cI .i64) (cCons (cI .i64) (cCons cB cNil)))
theorem k64_e (y : Int × Int × Bool × Unit) : k64.e y = .agg 64 [.int .i64 y.1, .int .i64 y.2.1, .bool y.2.2.1] := nr rfl
def k195 : Cod (List Int) := cL 27 (cI .i64)
theorem k195_e (y : List Int) : k195.e y = .sl 27 (y.map (D.int .i64)) := nr rfl
def k87 : Cod (Int × Int × Bool × Unit) := cA 87 (cCons (cI .i64) (cCons (cI .i64) (cCons cB cNil)))
theorem k87_e (y : Int × Int × Bool × Unit) : k87.e y = .agg 87 [.int .i64 y.1, .int .i64 y.2.1, .bool y.2.2.1] := nr rfl
def k168 : Cod ((Int × Int × Bool × Unit) × (Int × Int × Bool × Unit) × (Int × Int × Bool × Unit) × Unit) := cA 168 (cCons k64 (cCons k64 (cCons k64 cNil)))
theorem k168_e (y : (Int × Int × Bool × Unit) × (Int × Int × Bool × Unit) × (Int × Int × Bool × Unit) × Unit) : k168.e y = .agg 168 [.agg 64 [.int .i64 y.1.1, .int .i64 y.1.2.1, .bool y.1.2.2.1], .agg 64 [.int .i64 y.2.1.1, .int .i64 y.2.1.2.1, .bool y.2.1.2.2.1], .agg 64 [.int .i64 y.2.2.1.1, .int .i64 y.2.2.1.2.1, .bool y.2.2.1.2.2.1]] := nr rfl
def k66 : Cod ((Int × Int × Bool × Unit) × (Int × Int × Bool × Unit) × (Int × Int × Bool × Unit) × Unit) := cA 66 (cCons k64 (cCons k64 (cCons k64 cNil)))
theorem k66_e (y : (Int × Int × Bool × Unit) × (Int × Int × Bool × Unit) × (Int × Int × Bool × Unit) × Unit) : k66.e y = .agg 66 [.agg 64 [.int .i64 y.1.1, .int .i64 y.1.2.1, .bool y.1.2.2.1], .agg 64 [.int .i64 y.2.1.1, .int .i64 y.2.1.2.1, .bool y.2.1.2.2.1], .agg 64 [.int .i64 y.2.2.1.1, .int .i64 y.2.2.1.2.1, .bool y.2.2.1.2.2.1]] := nr rfl
def k89 : Cod (Int × ((Int × Int × Bool × Unit) × (Int × Int × Bool × Unit) × (Int × Int × Bool × Unit) × Unit) × (Int × Int × Bool × Unit) × (Int × Int × Bool × Unit) × (List Int) × Int × Unit) := cA 89 (cCons (cI .i64) (cCons k66 (cCons k35 (cCons k87 (cCons k22 (cCons (cI .i64) cNil))))))
theorem k89_e (y : Int × ((Int × Int × Bool × Unit) × (Int × Int × Bool × Unit) × (Int × Int × Bool × Unit) × Unit) × (Int × Int × Bool × Unit) × (Int × Int × Bool × Unit) × (List Int) × Int × Unit) : k89.e y = .agg 89 [.int .i64 y.1, .agg 66 [.agg 64 [.int .i64 y.2.1.1.1, .int .i64 y.2.1.1.2.1, .bool y.2.1.1.2.2.1], .agg 64 [.int .i64 y.2.1.2.1.1, .int .i64 y.2.1.2.1.2.1, .bool y.2.1.2.1.2.2.1], .agg 64 [.int .i64 y.2.1.2.2.1.1, .int .i64 y.2.1.2.2.1.2.1, .bool y.2.1.2.2.1.2.2.1]], .agg 35 [.int .i64 y.2.2.1.1, .int .i64 y.2.2.1.2.1, .bool y.2.2.1.2.2.1], .agg 87 [.int .i64 y.2.2.2.1.1, .int .i64 y.2.2.2.1.2.1, .bool y.2.2.2.1.2.2.1], .sl 3 (y.2.2.2.2.1.map (D.int .i64)), .int .i64 y.2.2.2.2.2.1] := nr rfl
def k70 : Cod (List (Int × ((Int × Int × Bool × Unit) × (Int × Int × Bool × Unit) × (Int × Int × Bool × Unit) × Unit) × (Int × Int × Bool × Unit) × (Int × Int × Bool × Unit) × (List Int) × Int × Unit)) := cL 89 k89
theorem k70_e (y : List (Int × ((Int × Int × Bool × Unit) × (Int × Int × Bool × Unit) × (Int × Int × Bool × Unit) × Unit) × (Int × Int × Bool × Unit) × (Int × Int × Bool × Unit) × (List Int) × Int × Unit)) : k70.e y = .sl 89 (y.map k89.e) := nr rfl
def k118 : Cod (Int × (Int × ((Int × Int × Bool × Unit) × (Int × Int × Bool × Unit) × (Int × Int × Bool × Unit) × Unit) × (Int × Int × Bool × Unit) × (Int × Int × Bool × Unit) × (List Int) × Int × Unit) × Unit) := cA 118 (cCons (cI .i64) (cCons k89 cNil))
theorem k118_e (y : Int × (Int × ((Int × Int × Bool × Unit) × (Int × Int × Bool × Unit) × (Int × Int × Bool × Unit) × Unit) × (Int × Int × Bool × Unit) × (Int × Int × Bool × Unit) × (List Int) × Int × Unit) × Unit) : k118.e y = .agg 118 [.int .i64 y.1, .agg 89 [.int .i64 y.2.1.1, .agg 66 [.agg 64 [.int .i64 y.2.1.2.1.1.1, .int .i64 y.2.1.2.1.1.2.1, .bool y.2.1.2.1.1.2.2.1], .agg 64 [.int .i64 y.2.1.2.1.2.1.1, .int .i64 y.2.1.2.1.2.1.2.1, .bool y.2.1.2.1.2.1.2.2.1], .agg 64 [.int .i64 y.2.1.2.1.2.2.1.1, .int .i64 y.2.1.2.1.2.2.1.2.1, .bool y.2.1.2.1.2.2.1.2.2.1]], .agg 35 [.int .i64 y.2.1.2.2.1.1, .int .i64 y.2.1.2.2.1.2.1, .bool y.2.1.2.2.1.2.2.1], .agg 87 [.int .i64 y.2.1.2.2.2.1.1, .int .i64 y.2.1.2.2.2.1.2.1, .bool y.2.1.2.2.2.1.2.2.1], .sl 3 (y.2.1.2.2.2.2.1.map (D.int .i64)), .int .i64 y.2.1.2.2.2.2.2.1]] := nr rfl
def k93 : Cod (List (Int × (Int × ((Int × Int × Bool × Unit) × (Int × Int × Bool × Unit) × (Int × Int × Bool × Unit) × Unit) × (Int × Int × Bool × Unit) × (Int × Int × Bool × Unit) × (List Int) × Int × Unit) × Unit)) := cL 118 k118
theorem k93_e (y : List (Int × (Int × ((Int × Int × Bool × Unit) × (Int × Int × Bool × Unit) × (Int × Int × Bool × Unit) × Unit) × (Int × Int × Bool × Unit) × (Int × Int × Bool × Unit) × (List Int) × Int × Unit) × Unit)) : k93.e y = .sl 118 (y.map k118.e) := nr rfl
def k100 : Cod (List (List (Int × (Int × ((Int × Int × Bool × Unit) × (Int × Int × Bool × Unit) × (Int × Int × Bool × Unit) × Unit) × (Int × Int × Bool × Unit) × (Int × Int × Bool × Unit) × (List Int) × Int × Unit) × Unit))) := cL 93 k93
theorem k100_e (y : List (List (Int × (Int × ((Int × Int × Bool × Unit) × (Int × Int × Bool × Unit) × (Int × Int × Bool × Unit) × Unit) × (Int × Int × Bool × Unit) × (Int × Int × Bool × Unit) × (List Int) × Int × Unit) × Unit))) : k100.e y = .sl 93 (y.map k93.e) := nr rfl
def k102 : Cod ((List (List (Int × (Int × ((Int × Int × Bool × Unit) × (Int × Int × Bool × Unit) × (Int × Int × Bool × Unit) × Unit) × (Int × Int × Bool × Unit) × (Int × Int × Bool × Unit) × (List Int) × Int × Unit) × Unit))) × Unit) := cA 102 (cCons k100 cNil)
theorem k102_e (y : (List (List (Int × (Int × ((Int × Int × Bool × Unit) × (Int × Int × Bool × Unit) × (Int × Int × Bool × Unit) × Unit) × (Int × Int × Bool × Unit) × (Int × Int × Bool × Unit) × (List Int) × Int × Unit) × Unit))) × Unit) : k102.e y = .agg 102 [.sl 93 (y.1.map k93.e)] := nr rfl
theorem mixed : Try.prog.follows .mixedOrders = true := by kernel_rfl
end Go.Proofs.Ytnojehmbiceceaa.Ty
end
section
set_option linter.unusedVariables false
set_option linter.unusedSimpArgs false
set_option maxRecDepth 100000
namespace Go.Proofs.Ytnojehmbiceceaa.E
open Go.Ev
noncomputable def en226 : Entry := ⟨Try.f226, [(1000000, mb 13 0 [4])]⟩
theorem mk226_1000000 (vs : List V) : mask (maskOf en226.ms 1000000) vs = km 13 0 [4] vs := mask_mb _ _ _ _
end Go.Proofs.Ytnojehmbiceceaa.E
end
section
set_option linter.unusedVariables false
set_option linter.unusedSimpArgs false
set_option maxRecDepth 100000
namespace Go.Proofs.Ytnojehmbiceceaa.E
open Go.Ev
noncomputable def en75 : Entry := ⟨Try.f75, [(1000000, mb 8 0 [2])]⟩
theorem mk75_1000000 (vs : List V) : mask (maskOf en75.ms 1000000) vs = km 8 0 [2] vs := mask_mb _ _ _ _
end Go.Proofs.Ytnojehmbiceceaa.E
end
section
set_option linter.unusedVariables false
set_option linter.unusedSimpArgs false
set_option maxRecDepth 100000
namespace Go.Proofs.Ytnojehmbiceceaa.E
open Go.Ev
noncomputable def en77 : Entry := ⟨Try.f77, [(1000000, mb 2 0 [0])]⟩
theorem mk77_1000000 (vs : List V) : mask (maskOf en77.ms 1000000) vs = km 2 0 [0] vs := mask_mb _ _ _ _
end Go.Proofs.Ytnojehmbiceceaa.E
end
section
set_option linter.unusedVariables false
set_option linter.unusedSimpArgs false
set_option maxRecDepth 100000
namespace Go.Proofs.Ytnojehmbiceceaa.P
open Go.Ev Go.IntKind Go.Proofs.Ytnojehmbiceceaa Go.Proofs.Ytnojehmbiceceaa.Ty Go.Proofs.Ytnojehmbiceceaa.E
def p_bound_None_Quanta (L : Nat)  : Option (Int × Int × Bool) := some (0, 0, true)
attribute [local go_sem] Ev.putR_s Ev.putR_0 Ev.thenO_s Ev.thenO_0 Ev.seqR_n Ev.seqR_e Ev.seqR_r Ev.seqR_0 Ev.blkR_e Ev.blkR_n Ev.blkR_r Ev.blkR_0 Ev.normR_s Ev.normR_0 Ev.outR_r Ev.outR_n Ev.outR_0 Ev.retS_s Ev.retS_0 Ev.pureO_s Ev.pureO_0 Ev.topR_0 Ev.topR_t Ev.topR_t0 Ev.oneL_0 Ev.oneL_s Ev.topR_d Ev.topR_nils Ev.topR_agg Ev.topR_rs Ev.evOp_move Ev.evOp_assign Ev.evOp_pick Ev.evOp_alloc Ev.evOp_box Ev.evOp_build Ev.evOp_buildSlice Ev.evOp_load Ev.evOp_store Ev.evOp_makeMap Ev.evOp_lookup Ev.evOp_mapUpdate Ev.evOp_insert Ev.evOp_nilCheck Ev.evOp_binOp Ev.evOp_unOp Ev.evOp_convert Ev.evOp_makeFunc Ev.evOp_makeSlice Ev.evOp_slice Ev.evOp_fieldAddr Ev.evOp_field Ev.evOp_indexAddr Ev.evOp_index Ev.evOp_extract Ev.evOp_call Ev.evOp_append Ev.evOp_clear Ev.evOp_len Ev.evLen_d Ev.evLen_rs Ev.evLen_nils Ev.evLen_nila Ev.evLen_mp Ev.evOp_min Ev.evOp_max Ev.condR_b Ev.condR_t Ev.evOps_nil Ev.evOps_plain Ev.evOps_guard Ev.runG_eq Ev.skipG_eq Ev.condL_tt Ev.condL_ff Ev.condL_tf Ev.condL_ft Ev.condL_u Ev.condC_t Ev.condC_f Ev.evC_skip Ev.evC_ret Ev.evC_exit Ev.evC_label Ev.evC_region Ev.evC_draw Ev.evC_seq Ev.evC_cond Ev.evC_block Ev.evC_loop Ev.fin_d Ev.fin_nila Ev.fin_nils Ev.fin_agg_ Ev.fin_rs Ev.finS_s Ev.mapO_fin Ev.upd_upd Ev.argv_d Ev.argv_nila Ev.argv_nils Ev.argv_agg Ev.argv_rs Ev.argv_p Ev.fk_low Ev.appendTo_nils Ev.appendTo_nila Ev.appendTo_rs Ev.consV_d Ev.consV_agg Ev.consV_p Ev.consV_rs Ev.consV_nila Ev.consV_nils Ev.consV_fn Ev.consV_und Ev.consV_jk Ev.consV_grown Ev.topR_grown Ev.len_grown Ev.consV_nilm Ev.consV_mp Ev.sameK_i Ev.sameK_s Ev.mget_0 Ev.mget_hit Ev.mget_miss Ev.mput_0 Ev.mput_hit Ev.mput_miss Ev.apartAll Ev.apartL Ev.apartV Ev.freeAll Ev.sel Ev.keyOfV Ev.evLookup Ev.evPut Ev.hintOk Ev.keyOk Ev.consP Ev.lookV Ev.guardV Ev.dstAt Ev.evPure Ev.evStore Ev.evBin Ev.evBinO Ev.evNil Ev.isNilC Ev.evUn Ev.evConv Ev.evSlice Ev.optI Ev.foldI Ev.capsOk Ev.noTup Ev.nth Ev.setN Ev.killAt Ev.pad Ev.V.get Ev.V.put Ev.putD Ev.newBlk Ev.upd Ev.keq Ev.empty Ev.evCall Ev.V.args Ev.argP Ev.callOf Ev.evNilP Ev.isNilP Ev.look Ev.V.view.views Ev.V.view Ev.V.toD Ev.V.toD.V.toDs Ev.V.pure.pures Ev.V.pure Ev.D.flat.flats Ev.D.flat Ev.mkAgg Ev.allD Ev.aggParts Ev.setParts Ev.setElems Ev.getPath Ev.setPath Ev.subL Ev.eqD Ev.eqD.eqDs Ev.and2 Ev.strCut Ev.evalT Ev.constT Ev.evArgs Ev.mask Ev.maskOf Ev.tableOf Ev.compT Ev.resV Ev.retV Ev.mapO Ev.eT_nils Ev.ag_t Ev.ag_f Ev.ag_0 Ev.ag_n Ev.mx_u64 Ev.mx_u32 Ev.mx_u16 Ev.mx_u8 Ev.sg_i64 Ev.sg_i32 Ev.sg_i16 Ev.sg_i8 Ev.sg_u64 Ev.sg_u32 Ev.sg_u16 Ev.sg_u8 Ev.mapE_i Ev.mapV_nil Ev.hT_nilm Ev.mget_map Ev.mput_map Ev.mapV_put Ev.mapV_half Ev.hT_nila Ev.eO_nila Ev.pL_nila Ev.evLen_gl Ev.r_nila Ev.frzO_n Ev.frzO_e Ev.frzO_r Ev.frzO_0 Ev.mb_z Ev.mb_0 Ev.mb_s Ev.frzL_t Ev.frzL_f Ev.frzL_0 Ev.frzT_nils Ev.frzT_rs Ev.frzT_p Ev.frzK_i Ev.keyIn_i Ev.rI_nil Ev.rI_cons Ev.rI_row Ev.rI_app Ev.r_d Ev.r_nils Ev.r_agg Ev.r_rs Ev.r_gl Ev.vw_row Ev.vw_app Ev.appO_s Ev.frzT_gl Ev.allD_gl Ev.killAt_i Ev.tkOne_i Ev.hT_agg Ev.hT_vagg Ev.hT_int Ev.hT_bool Ev.hT_str Ev.hT_sl Ev.hT_ptr Ev.hT_np Ev.hT_p Ev.hT_rs Ev.hT_mp Ev.hT_nils Ev.hT_fn Ev.hT_jk Ev.hT_gl Ev.eO_sl Ev.eO_nils Ev.eO_rs Ev.eT_sl Ev.eT_rs Ev.pL_str Ev.pL_sl Ev.pL_rs Ev.pL_nils Ev.pL_min Ev.pL_max Ev.len_glB Ev.noTup_gl Ev.rowV_len Ev.rowV_nil Ev.rowV_cons Ev.rowV_append Ev.rowV_set Ev.rowV_replicate Ev.nth_row Ev.row_take Ev.row_drop Ev.toDs_row Ev.fin_row Ev.map_row Ev.map_take_ Ev.map_drop_ Ev.Bk_i Ev.GlB_0 Ev.GlB_mk Ev.gl_nil Ev.gl_cons Ev.gl_snoc Ev.gl_setN Ev.appendTo_gl Ev.consV_gl Ev.elems_gl Ev.fin_gl Ev.view_gl Ev.argv_gl Ev.topR_gl Ev.sp_z Ev.sp_0 Ev.sp_s Ev.km_z Ev.km_0 Ev.km_s Ev.beq_toList Ev.nc0 Ev.bq_t Ev.bq_f Ev.bodyN Ev.le_maxRow Int.cast_ofNat_Int IntWalk.i64_in IntWalk.u64_in IntWalk.u8_in beq_self_eq_true Bool.true_beq Bool.false_beq Bool.and_true Bool.true_and Bool.false_and Bool.and_false Bool.and_self Bool.not_true Bool.not_false Bool.not_eq_true cond_true cond_false if_true if_false and_true true_and and_self decide_true decide_false Bool.or_true Bool.true_or Bool.or_false Bool.false_or List.isEmpty List.isEmpty_nil List.size_toArray List.map List.length_map List.length_cons List.length_nil Option.map Option.bind Option.getD Option.isSome List.replicate Bool.false_eq_true implies_true false_implies forall_const Array.toList Array.isEmpty List.append List.nil_append List.cons_append List.drop_zero List.take_length List.take_succ_cons List.take_zero List.take_nil List.getElem?_map List.getElem?_cons_zero List.getElem?_cons_succ List.getElem?_nil List.append_nil eq_self Int.toNat_natCast List.length_append List.length_set Nat.zero_add Nat.add_zero List.length_replicate Nat.sub_zero Option.map_some Option.map_none Int.le_refl Nat.le_refl Int.natCast_nonneg List.map_append
attribute [local go_sem_proc] Nat.reduceAdd Nat.reduceSub Nat.reduceMul Nat.reduceEqDiff Nat.reduceBEq Nat.reduceLT Nat.reduceLeDiff Nat.reducePow Int.reduceToNat Int.reduceLT Int.reduceLE Int.reduceGT Int.reduceGE Int.reduceEq Int.reduceNeg Int.reduceAdd Int.reduceSub Int.reduceMul reduceCtorEq
attribute [local go_sem_proc ↓] reduceIte
noncomputable def G_bound_None_Quanta (L : Nat) : Specs := []
noncomputable def T_bound_None_Quanta : Table := tableOf [(77, en77)]
theorem Go_bound_None_Quanta (L : Nat) (hL : L ≤ 4611686018427387904) : ∀ g s, Ev.look (G_bound_None_Quanta L) g = some s → SpecOk Try.prog g s := specs_nil
theorem To_bound_None_Quanta (L : Nat) : TableOk Try.prog ((G_bound_None_Quanta L).map (·.1)) T_bound_None_Quanta := (table_cons Try.func77 (by kernel_rfl) (by kernel_rfl) table_nil)
attribute [local go_sem] Ty.tk4 Ty.ub4 Ty.ek4 Ty.zv4 Ty.by4 Ty.so4 Ty.tk24 Ty.ik24 Ty.ek24 Ty.zv24 Ty.by24 Ty.so24 Ty.tk35 Ty.ct35 Ty.ek35 Ty.zv35 Ty.by35 Ty.so35 Ty.k35_e E.mk77_1000000 loopN loops Try.f77
theorem e_bound_None_Quanta (L : Nat) (hL : L ≤ 4611686018427387904)  (res : Int × Int × Bool) (h : p_bound_None_Quanta L  = some res) : evTop Try.prog (G_bound_None_Quanta L) T_bound_None_Quanta L 1 77 [] = some [.agg 35 [.int .i64 res.1, .int .i64 res.2.1, .bool res.2.2]] := by
  revert h
  unfold p_bound_None_Quanta evTop
  simp only [List.map]
  rw [evF_s (fn := Try.f77) (msk := en77.ms) (hT := by rfl) (hb := by rfl)]
  rintro ⟨⟩
  simp only [go_sem, *]
noncomputable def s_bound_None_Quanta (L : Nat) : Ev.Spec := specP cNil (fun x => p_bound_None_Quanta L ) (fun r => [.agg 35 [.int .i64 r.1, .int .i64 r.2.1, .bool r.2.2]])
theorem s_bound_None_Quanta_run (L : Nat)  : (s_bound_None_Quanta L).run [] = (p_bound_None_Quanta L ).map fun r => [.agg 35 [.int .i64 r.1, .int .i64 r.2.1, .bool r.2.2]] := specP_run cNil (fun x => p_bound_None_Quanta L ) (fun r => [.agg 35 [.int .i64 r.1, .int .i64 r.2.1, .bool r.2.2]]) (())
theorem ok_bound_None_Quanta (L : Nat) (hL : L ≤ 4611686018427387904) : SpecOk Try.prog 77 (s_bound_None_Quanta L) := specP_ok mixed (Go_bound_None_Quanta L hL) (To_bound_None_Quanta L) fun x r h => ⟨L, 1, e_bound_None_Quanta L hL  r h⟩
end Go.Proofs.Ytnojehmbiceceaa.P
end
section
set_option linter.unusedVariables false
set_option linter.unusedSimpArgs false
set_option maxRecDepth 100000
namespace Go.Proofs.Ytnojehmbiceceaa.E
open Go.Ev
noncomputable def en99 : Entry := ⟨Try.f99, [(1000001, mb 37 0 []), (1000000, mb 37 0 [2])]⟩
theorem mk99_1000001 (vs : List V) : mask (maskOf en99.ms 1000001) vs = km 37 0 [] vs := mask_mb _ _ _ _
theorem mk99_1000000 (vs : List V) : mask (maskOf en99.ms 1000000) vs = km 37 0 [2] vs := mask_mb _ _ _ _
end Go.Proofs.Ytnojehmbiceceaa.E
end
section
set_option linter.unusedVariables false
set_option linter.unusedSimpArgs false
set_option maxRecDepth 100000
namespace Go.Proofs.Ytnojehmbiceceaa.P
open Go.Ev Go.IntKind Go.Proofs.Ytnojehmbiceceaa Go.Proofs.Ytnojehmbiceceaa.Ty Go.Proofs.Ytnojehmbiceceaa.E
def p_bound_Check_Quanta (L : Nat) (a0_0 : Int) (a0_1 : Int) (a0_2 : Bool) : Option Int := cb a0_2 (cb (decide (a0_0 = 0)) (cb (decide (a0_1 = 0)) (if (minI a0_0 a0_1) < (-1152921504606846976) then (some 4) else (if (maxI a0_0 a0_1) > 1152921504606846976 then (some 4) else (if a0_0 > a0_1 then (some 11) else (some 0)))) (some 3)) (some 3)) (if (minI a0_0 a0_1) < (-1152921504606846976) then (some 4) else (if (maxI a0_0 a0_1) > 1152921504606846976 then (some 4) else (if a0_0 > a0_1 then (some 11) else (some 0))))
attribute [local go_sem] Ev.putR_s Ev.putR_0 Ev.thenO_s Ev.thenO_0 Ev.seqR_n Ev.seqR_e Ev.seqR_r Ev.seqR_0 Ev.blkR_e Ev.blkR_n Ev.blkR_r Ev.blkR_0 Ev.normR_s Ev.normR_0 Ev.outR_r Ev.outR_n Ev.outR_0 Ev.retS_s Ev.retS_0 Ev.pureO_s Ev.pureO_0 Ev.topR_0 Ev.topR_t Ev.topR_t0 Ev.oneL_0 Ev.oneL_s Ev.topR_d Ev.topR_nils Ev.topR_agg Ev.topR_rs Ev.evOp_move Ev.evOp_assign Ev.evOp_pick Ev.evOp_alloc Ev.evOp_box Ev.evOp_build Ev.evOp_buildSlice Ev.evOp_load Ev.evOp_store Ev.evOp_makeMap Ev.evOp_lookup Ev.evOp_mapUpdate Ev.evOp_insert Ev.evOp_nilCheck Ev.evOp_binOp Ev.evOp_unOp Ev.evOp_convert Ev.evOp_makeFunc Ev.evOp_makeSlice Ev.evOp_slice Ev.evOp_fieldAddr Ev.evOp_field Ev.evOp_indexAddr Ev.evOp_index Ev.evOp_extract Ev.evOp_call Ev.evOp_append Ev.evOp_clear Ev.evOp_len Ev.evLen_d Ev.evLen_rs Ev.evLen_nils Ev.evLen_nila Ev.evLen_mp Ev.evOp_min Ev.evOp_max Ev.condR_b Ev.condR_t Ev.evOps_nil Ev.evOps_plain Ev.evOps_guard Ev.runG_eq Ev.skipG_eq Ev.condL_tt Ev.condL_ff Ev.condL_tf Ev.condL_ft Ev.condL_u Ev.condC_t Ev.condC_f Ev.evC_skip Ev.evC_ret Ev.evC_exit Ev.evC_label Ev.evC_region Ev.evC_draw Ev.evC_seq Ev.evC_cond Ev.evC_block Ev.evC_loop Ev.fin_d Ev.fin_nila Ev.fin_nils Ev.fin_agg_ Ev.fin_rs Ev.finS_s Ev.mapO_fin Ev.upd_upd Ev.argv_d Ev.argv_nila Ev.argv_nils Ev.argv_agg Ev.argv_rs Ev.argv_p Ev.fk_low Ev.appendTo_nils Ev.appendTo_nila Ev.appendTo_rs Ev.consV_d Ev.consV_agg Ev.consV_p Ev.consV_rs Ev.consV_nila Ev.consV_nils Ev.consV_fn Ev.consV_und Ev.consV_jk Ev.consV_grown Ev.topR_grown Ev.len_grown Ev.consV_nilm Ev.consV_mp Ev.sameK_i Ev.sameK_s Ev.mget_0 Ev.mget_hit Ev.mget_miss Ev.mput_0 Ev.mput_hit Ev.mput_miss Ev.apartAll Ev.apartL Ev.apartV Ev.freeAll Ev.sel Ev.keyOfV Ev.evLookup Ev.evPut Ev.hintOk Ev.keyOk Ev.consP Ev.lookV Ev.guardV Ev.dstAt Ev.evPure Ev.evStore Ev.evBin Ev.evBinO Ev.evNil Ev.isNilC Ev.evUn Ev.evConv Ev.evSlice Ev.optI Ev.foldI Ev.capsOk Ev.noTup Ev.nth Ev.setN Ev.killAt Ev.pad Ev.V.get Ev.V.put Ev.putD Ev.newBlk Ev.upd Ev.keq Ev.empty Ev.evCall Ev.V.args Ev.argP Ev.callOf Ev.evNilP Ev.isNilP Ev.look Ev.V.view.views Ev.V.view Ev.V.toD Ev.V.toD.V.toDs Ev.V.pure.pures Ev.V.pure Ev.D.flat.flats Ev.D.flat Ev.mkAgg Ev.allD Ev.aggParts Ev.setParts Ev.setElems Ev.getPath Ev.setPath Ev.subL Ev.eqD Ev.eqD.eqDs Ev.and2 Ev.strCut Ev.evalT Ev.constT Ev.evArgs Ev.mask Ev.maskOf Ev.tableOf Ev.compT Ev.resV Ev.retV Ev.mapO Ev.eT_nils Ev.ag_t Ev.ag_f Ev.ag_0 Ev.ag_n Ev.mx_u64 Ev.mx_u32 Ev.mx_u16 Ev.mx_u8 Ev.sg_i64 Ev.sg_i32 Ev.sg_i16 Ev.sg_i8 Ev.sg_u64 Ev.sg_u32 Ev.sg_u16 Ev.sg_u8 Ev.mapE_i Ev.mapV_nil Ev.hT_nilm Ev.mget_map Ev.mput_map Ev.mapV_put Ev.mapV_half Ev.hT_nila Ev.eO_nila Ev.pL_nila Ev.evLen_gl Ev.r_nila Ev.frzO_n Ev.frzO_e Ev.frzO_r Ev.frzO_0 Ev.mb_z Ev.mb_0 Ev.mb_s Ev.frzL_t Ev.frzL_f Ev.frzL_0 Ev.frzT_nils Ev.frzT_rs Ev.frzT_p Ev.frzK_i Ev.keyIn_i Ev.rI_nil Ev.rI_cons Ev.rI_row Ev.rI_app Ev.r_d Ev.r_nils Ev.r_agg Ev.r_rs Ev.r_gl Ev.vw_row Ev.vw_app Ev.appO_s Ev.frzT_gl Ev.allD_gl Ev.killAt_i Ev.tkOne_i Ev.hT_agg Ev.hT_vagg Ev.hT_int Ev.hT_bool Ev.hT_str Ev.hT_sl Ev.hT_ptr Ev.hT_np Ev.hT_p Ev.hT_rs Ev.hT_mp Ev.hT_nils Ev.hT_fn Ev.hT_jk Ev.hT_gl Ev.eO_sl Ev.eO_nils Ev.eO_rs Ev.eT_sl Ev.eT_rs Ev.pL_str Ev.pL_sl Ev.pL_rs Ev.pL_nils Ev.pL_min Ev.pL_max Ev.len_glB Ev.noTup_gl Ev.rowV_len Ev.rowV_nil Ev.rowV_cons Ev.rowV_append Ev.rowV_set Ev.rowV_replicate Ev.nth_row Ev.row_take Ev.row_drop Ev.toDs_row Ev.fin_row Ev.map_row Ev.map_take_ Ev.map_drop_ Ev.Bk_i Ev.GlB_0 Ev.GlB_mk Ev.gl_nil Ev.gl_cons Ev.gl_snoc Ev.gl_setN Ev.appendTo_gl Ev.consV_gl Ev.elems_gl Ev.fin_gl Ev.view_gl Ev.argv_gl Ev.topR_gl Ev.sp_z Ev.sp_0 Ev.sp_s Ev.km_z Ev.km_0 Ev.km_s Ev.beq_toList Ev.nc0 Ev.bq_t Ev.bq_f Ev.bodyN Ev.le_maxRow Int.cast_ofNat_Int IntWalk.i64_in IntWalk.u64_in IntWalk.u8_in beq_self_eq_true Bool.true_beq Bool.false_beq Bool.and_true Bool.true_and Bool.false_and Bool.and_false Bool.and_self Bool.not_true Bool.not_false Bool.not_eq_true cond_true cond_false if_true if_false and_true true_and and_self decide_true decide_false Bool.or_true Bool.true_or Bool.or_false Bool.false_or List.isEmpty List.isEmpty_nil List.size_toArray List.map List.length_map List.length_cons List.length_nil Option.map Option.bind Option.getD Option.isSome List.replicate Bool.false_eq_true implies_true false_implies forall_const Array.toList Array.isEmpty List.append List.nil_append List.cons_append List.drop_zero List.take_length List.take_succ_cons List.take_zero List.take_nil List.getElem?_map List.getElem?_cons_zero List.getElem?_cons_succ List.getElem?_nil List.append_nil eq_self Int.toNat_natCast List.length_append List.length_set Nat.zero_add Nat.add_zero List.length_replicate Nat.sub_zero Option.map_some Option.map_none Int.le_refl Nat.le_refl Int.natCast_nonneg List.map_append
attribute [local go_sem_proc] Nat.reduceAdd Nat.reduceSub Nat.reduceMul Nat.reduceEqDiff Nat.reduceBEq Nat.reduceLT Nat.reduceLeDiff Nat.reducePow Int.reduceToNat Int.reduceLT Int.reduceLE Int.reduceGT Int.reduceGE Int.reduceEq Int.reduceNeg Int.reduceAdd Int.reduceSub Int.reduceMul reduceCtorEq
attribute [local go_sem_proc ↓] reduceIte
noncomputable def G_bound_Check_Quanta (L : Nat) : Specs := []
noncomputable def T_bound_Check_Quanta : Table := tableOf [(99, en99)]
theorem Go_bound_Check_Quanta (L : Nat) (hL : L ≤ 4611686018427387904) : ∀ g s, Ev.look (G_bound_Check_Quanta L) g = some s → SpecOk Try.prog g s := specs_nil
theorem To_bound_Check_Quanta (L : Nat) : TableOk Try.prog ((G_bound_Check_Quanta L).map (·.1)) T_bound_Check_Quanta := (table_cons Try.func99 (by kernel_rfl) (by kernel_rfl) table_nil)
attribute [local go_sem] Ty.tk4 Ty.ub4 Ty.ek4 Ty.zv4 Ty.by4 Ty.so4 Ty.tk24 Ty.ik24 Ty.ek24 Ty.zv24 Ty.by24 Ty.so24 Ty.tk27 Ty.ik27 Ty.ek27 Ty.zv27 Ty.by27 Ty.so27 Ty.tk35 Ty.ct35 Ty.ek35 Ty.zv35 Ty.by35 Ty.so35 Ty.k35_e E.mk99_1000001 E.mk99_1000000 loopN loops Try.f99
theorem e_bound_Check_Quanta (L : Nat) (hL : L ≤ 4611686018427387904) (a0_0 : Int) (a0_1 : Int) (a0_2 : Bool) (res : Int) (h : p_bound_Check_Quanta L a0_0 a0_1 a0_2 = some res) : evTop Try.prog (G_bound_Check_Quanta L) T_bound_Check_Quanta L 1 99 [.agg 35 [.int .i64 a0_0, .int .i64 a0_1, .bool a0_2]] = some [.int .i64 res] := by
  revert h
  unfold p_bound_Check_Quanta evTop
  simp only [List.map]
  rw [evF_s (fn := Try.f99) (msk := en99.ms) (hT := by rfl) (hb := by rfl)]
  refine cb_i (fun c1 => ?_) (fun c1 => ?_)
  · refine cb_i (fun c2 => ?_) (fun c2 => ?_)
    · refine cb_i (fun c3 => ?_) (fun c3 => ?_)
      · refine ite_i (fun c4 => ?_) (fun c4 => ?_)
        · rintro ⟨⟩
          simp only [go_sem, *]
        · refine ite_i (fun c5 => ?_) (fun c5 => ?_)
          · rintro ⟨⟩
            simp only [go_sem, *]
          · refine ite_i (fun c6 => ?_) (fun c6 => ?_)
            · rintro ⟨⟩
              simp only [go_sem, *]
            · rintro ⟨⟩
              simp only [go_sem, *]
      · rintro ⟨⟩
        simp only [go_sem, *]
    · rintro ⟨⟩
      simp only [go_sem, *]
  · refine ite_i (fun c7 => ?_) (fun c7 => ?_)
    · rintro ⟨⟩
      simp only [go_sem, *]
    · refine ite_i (fun c8 => ?_) (fun c8 => ?_)
      · rintro ⟨⟩
        simp only [go_sem, *]
      · refine ite_i (fun c9 => ?_) (fun c9 => ?_)
        · rintro ⟨⟩
          simp only [go_sem, *]
        · rintro ⟨⟩
          simp only [go_sem, *]
noncomputable def s_bound_Check_Quanta (L : Nat) : Ev.Spec := specP (cCons k35 cNil) (fun x => p_bound_Check_Quanta L x.1.1 x.1.2.1 x.1.2.2.1) (fun r => [.int .i64 r])
theorem s_bound_Check_Quanta_run (L : Nat) (a0_0 : Int) (a0_1 : Int) (a0_2 : Bool) : (s_bound_Check_Quanta L).run [.agg 35 [.int .i64 a0_0, .int .i64 a0_1, .bool a0_2]] = (p_bound_Check_Quanta L a0_0 a0_1 a0_2).map fun r => [.int .i64 r] := specP_run (cCons k35 cNil) (fun x => p_bound_Check_Quanta L x.1.1 x.1.2.1 x.1.2.2.1) (fun r => [.int .i64 r]) ((a0_0, a0_1, a0_2, ()), ())
theorem ok_bound_Check_Quanta (L : Nat) (hL : L ≤ 4611686018427387904) : SpecOk Try.prog 99 (s_bound_Check_Quanta L) := specP_ok mixed (Go_bound_Check_Quanta L hL) (To_bound_Check_Quanta L) fun x r h => ⟨L, 1, e_bound_Check_Quanta L hL x.1.1 x.1.2.1 x.1.2.2.1 r h⟩
end Go.Proofs.Ytnojehmbiceceaa.P
end
section
set_option linter.unusedVariables false
set_option linter.unusedSimpArgs false
set_option maxRecDepth 100000
namespace Go.Proofs.Ytnojehmbiceceaa.P
open Go.Ev Go.IntKind Go.Proofs.Ytnojehmbiceceaa Go.Proofs.Ytnojehmbiceceaa.Ty Go.Proofs.Ytnojehmbiceceaa.E
def p_bound_Norm_Quanta (L : Nat) (a0_0 : Int) (a0_1 : Int) (a0_2 : Bool) : Option (Int × Int × Bool) := bnd (p_bound_Check_Quanta L a0_0 a0_1 a0_2) fun r1 => cb (decide (r1 = 0)) (some (a0_0, a0_1, a0_2)) (bnd (p_bound_None_Quanta L) fun r2 => some (r2.1, r2.2.1, r2.2.2))
attribute [local go_sem] Ev.putR_s Ev.putR_0 Ev.thenO_s Ev.thenO_0 Ev.seqR_n Ev.seqR_e Ev.seqR_r Ev.seqR_0 Ev.blkR_e Ev.blkR_n Ev.blkR_r Ev.blkR_0 Ev.normR_s Ev.normR_0 Ev.outR_r Ev.outR_n Ev.outR_0 Ev.retS_s Ev.retS_0 Ev.pureO_s Ev.pureO_0 Ev.topR_0 Ev.topR_t Ev.topR_t0 Ev.oneL_0 Ev.oneL_s Ev.topR_d Ev.topR_nils Ev.topR_agg Ev.topR_rs Ev.evOp_move Ev.evOp_assign Ev.evOp_pick Ev.evOp_alloc Ev.evOp_box Ev.evOp_build Ev.evOp_buildSlice Ev.evOp_load Ev.evOp_store Ev.evOp_makeMap Ev.evOp_lookup Ev.evOp_mapUpdate Ev.evOp_insert Ev.evOp_nilCheck Ev.evOp_binOp Ev.evOp_unOp Ev.evOp_convert Ev.evOp_makeFunc Ev.evOp_makeSlice Ev.evOp_slice Ev.evOp_fieldAddr Ev.evOp_field Ev.evOp_indexAddr Ev.evOp_index Ev.evOp_extract Ev.evOp_call Ev.evOp_append Ev.evOp_clear Ev.evOp_len Ev.evLen_d Ev.evLen_rs Ev.evLen_nils Ev.evLen_nila Ev.evLen_mp Ev.evOp_min Ev.evOp_max Ev.condR_b Ev.condR_t Ev.evOps_nil Ev.evOps_plain Ev.evOps_guard Ev.runG_eq Ev.skipG_eq Ev.condL_tt Ev.condL_ff Ev.condL_tf Ev.condL_ft Ev.condL_u Ev.condC_t Ev.condC_f Ev.evC_skip Ev.evC_ret Ev.evC_exit Ev.evC_label Ev.evC_region Ev.evC_draw Ev.evC_seq Ev.evC_cond Ev.evC_block Ev.evC_loop Ev.fin_d Ev.fin_nila Ev.fin_nils Ev.fin_agg_ Ev.fin_rs Ev.finS_s Ev.mapO_fin Ev.upd_upd Ev.argv_d Ev.argv_nila Ev.argv_nils Ev.argv_agg Ev.argv_rs Ev.argv_p Ev.fk_low Ev.appendTo_nils Ev.appendTo_nila Ev.appendTo_rs Ev.consV_d Ev.consV_agg Ev.consV_p Ev.consV_rs Ev.consV_nila Ev.consV_nils Ev.consV_fn Ev.consV_und Ev.consV_jk Ev.consV_grown Ev.topR_grown Ev.len_grown Ev.consV_nilm Ev.consV_mp Ev.sameK_i Ev.sameK_s Ev.mget_0 Ev.mget_hit Ev.mget_miss Ev.mput_0 Ev.mput_hit Ev.mput_miss Ev.apartAll Ev.apartL Ev.apartV Ev.freeAll Ev.sel Ev.keyOfV Ev.evLookup Ev.evPut Ev.hintOk Ev.keyOk Ev.consP Ev.lookV Ev.guardV Ev.dstAt Ev.evPure Ev.evStore Ev.evBin Ev.evBinO Ev.evNil Ev.isNilC Ev.evUn Ev.evConv Ev.evSlice Ev.optI Ev.foldI Ev.capsOk Ev.noTup Ev.nth Ev.setN Ev.killAt Ev.pad Ev.V.get Ev.V.put Ev.putD Ev.newBlk Ev.upd Ev.keq Ev.empty Ev.evCall Ev.V.args Ev.argP Ev.callOf Ev.evNilP Ev.isNilP Ev.look Ev.V.view.views Ev.V.view Ev.V.toD Ev.V.toD.V.toDs Ev.V.pure.pures Ev.V.pure Ev.D.flat.flats Ev.D.flat Ev.mkAgg Ev.allD Ev.aggParts Ev.setParts Ev.setElems Ev.getPath Ev.setPath Ev.subL Ev.eqD Ev.eqD.eqDs Ev.and2 Ev.strCut Ev.evalT Ev.constT Ev.evArgs Ev.mask Ev.maskOf Ev.tableOf Ev.compT Ev.resV Ev.retV Ev.mapO Ev.eT_nils Ev.ag_t Ev.ag_f Ev.ag_0 Ev.ag_n Ev.mx_u64 Ev.mx_u32 Ev.mx_u16 Ev.mx_u8 Ev.sg_i64 Ev.sg_i32 Ev.sg_i16 Ev.sg_i8 Ev.sg_u64 Ev.sg_u32 Ev.sg_u16 Ev.sg_u8 Ev.mapE_i Ev.mapV_nil Ev.hT_nilm Ev.mget_map Ev.mput_map Ev.mapV_put Ev.mapV_half Ev.hT_nila Ev.eO_nila Ev.pL_nila Ev.evLen_gl Ev.r_nila Ev.frzO_n Ev.frzO_e Ev.frzO_r Ev.frzO_0 Ev.mb_z Ev.mb_0 Ev.mb_s Ev.frzL_t Ev.frzL_f Ev.frzL_0 Ev.frzT_nils Ev.frzT_rs Ev.frzT_p Ev.frzK_i Ev.keyIn_i Ev.rI_nil Ev.rI_cons Ev.rI_row Ev.rI_app Ev.r_d Ev.r_nils Ev.r_agg Ev.r_rs Ev.r_gl Ev.vw_row Ev.vw_app Ev.appO_s Ev.frzT_gl Ev.allD_gl Ev.killAt_i Ev.tkOne_i Ev.hT_agg Ev.hT_vagg Ev.hT_int Ev.hT_bool Ev.hT_str Ev.hT_sl Ev.hT_ptr Ev.hT_np Ev.hT_p Ev.hT_rs Ev.hT_mp Ev.hT_nils Ev.hT_fn Ev.hT_jk Ev.hT_gl Ev.eO_sl Ev.eO_nils Ev.eO_rs Ev.eT_sl Ev.eT_rs Ev.pL_str Ev.pL_sl Ev.pL_rs Ev.pL_nils Ev.pL_min Ev.pL_max Ev.len_glB Ev.noTup_gl Ev.rowV_len Ev.rowV_nil Ev.rowV_cons Ev.rowV_append Ev.rowV_set Ev.rowV_replicate Ev.nth_row Ev.row_take Ev.row_drop Ev.toDs_row Ev.fin_row Ev.map_row Ev.map_take_ Ev.map_drop_ Ev.Bk_i Ev.GlB_0 Ev.GlB_mk Ev.gl_nil Ev.gl_cons Ev.gl_snoc Ev.gl_setN Ev.appendTo_gl Ev.consV_gl Ev.elems_gl Ev.fin_gl Ev.view_gl Ev.argv_gl Ev.topR_gl Ev.sp_z Ev.sp_0 Ev.sp_s Ev.km_z Ev.km_0 Ev.km_s Ev.beq_toList Ev.nc0 Ev.bq_t Ev.bq_f Ev.bodyN Ev.le_maxRow Int.cast_ofNat_Int IntWalk.i64_in IntWalk.u64_in IntWalk.u8_in beq_self_eq_true Bool.true_beq Bool.false_beq Bool.and_true Bool.true_and Bool.false_and Bool.and_false Bool.and_self Bool.not_true Bool.not_false Bool.not_eq_true cond_true cond_false if_true if_false and_true true_and and_self decide_true decide_false Bool.or_true Bool.true_or Bool.or_false Bool.false_or List.isEmpty List.isEmpty_nil List.size_toArray List.map List.length_map List.length_cons List.length_nil Option.map Option.bind Option.getD Option.isSome List.replicate Bool.false_eq_true implies_true false_implies forall_const Array.toList Array.isEmpty List.append List.nil_append List.cons_append List.drop_zero List.take_length List.take_succ_cons List.take_zero List.take_nil List.getElem?_map List.getElem?_cons_zero List.getElem?_cons_succ List.getElem?_nil List.append_nil eq_self Int.toNat_natCast List.length_append List.length_set Nat.zero_add Nat.add_zero List.length_replicate Nat.sub_zero Option.map_some Option.map_none Int.le_refl Nat.le_refl Int.natCast_nonneg List.map_append
attribute [local go_sem_proc] Nat.reduceAdd Nat.reduceSub Nat.reduceMul Nat.reduceEqDiff Nat.reduceBEq Nat.reduceLT Nat.reduceLeDiff Nat.reducePow Int.reduceToNat Int.reduceLT Int.reduceLE Int.reduceGT Int.reduceGE Int.reduceEq Int.reduceNeg Int.reduceAdd Int.reduceSub Int.reduceMul reduceCtorEq
attribute [local go_sem_proc ↓] reduceIte
noncomputable def G_bound_Norm_Quanta (L : Nat) : Specs := [(77, s_bound_None_Quanta L), (99, s_bound_Check_Quanta L)]
noncomputable def T_bound_Norm_Quanta : Table := tableOf [(75, en75)]
theorem Go_bound_Norm_Quanta (L : Nat) (hL : L ≤ 4611686018427387904) : ∀ g s, Ev.look (G_bound_Norm_Quanta L) g = some s → SpecOk Try.prog g s := (specs_cons (ok_bound_None_Quanta L hL) (specs_cons (ok_bound_Check_Quanta L hL) specs_nil))
theorem To_bound_Norm_Quanta (L : Nat) : TableOk Try.prog ((G_bound_Norm_Quanta L).map (·.1)) T_bound_Norm_Quanta := (table_cons Try.func75 (by kernel_rfl) (by kernel_rfl) table_nil)
theorem lk_bound_Norm_Quanta_77 (L : Nat) : Ev.look (G_bound_Norm_Quanta L) 77 = some (s_bound_None_Quanta L) := nr rfl
theorem lk_bound_Norm_Quanta_99 (L : Nat) : Ev.look (G_bound_Norm_Quanta L) 99 = some (s_bound_Check_Quanta L) := nr rfl
attribute [local go_sem] Ty.tk4 Ty.ub4 Ty.ek4 Ty.zv4 Ty.by4 Ty.so4 Ty.tk24 Ty.ik24 Ty.ek24 Ty.zv24 Ty.by24 Ty.so24 Ty.tk27 Ty.ik27 Ty.ek27 Ty.zv27 Ty.by27 Ty.so27 Ty.tk35 Ty.ct35 Ty.ek35 Ty.zv35 Ty.by35 Ty.so35 Ty.k35_e E.mk75_1000000 lk_bound_Norm_Quanta_77 lk_bound_Norm_Quanta_99 s_bound_None_Quanta_run s_bound_Check_Quanta_run loopN loops Try.f75
theorem e_bound_Norm_Quanta (L : Nat) (hL : L ≤ 4611686018427387904) (a0_0 : Int) (a0_1 : Int) (a0_2 : Bool) (res : Int × Int × Bool) (h : p_bound_Norm_Quanta L a0_0 a0_1 a0_2 = some res) : evTop Try.prog (G_bound_Norm_Quanta L) T_bound_Norm_Quanta L 1 75 [.agg 35 [.int .i64 a0_0, .int .i64 a0_1, .bool a0_2]] = some [.agg 35 [.int .i64 res.1, .int .i64 res.2.1, .bool res.2.2]] := by
  revert h
  unfold p_bound_Norm_Quanta evTop
  simp only [List.map]
  rw [evF_s (fn := Try.f75) (msk := en75.ms) (hT := by rfl) (hb := by rfl)]
  refine bnd_i fun r1 c1 => ?_
  refine cb_i (fun c2 => ?_) (fun c2 => ?_)
  · rintro ⟨⟩
    simp only [go_sem, *]
  · refine bnd_i fun r2 c3 => ?_
    rintro ⟨⟩
    simp only [go_sem, *]
noncomputable def s_bound_Norm_Quanta (L : Nat) : Ev.Spec := specP (cCons k35 cNil) (fun x => p_bound_Norm_Quanta L x.1.1 x.1.2.1 x.1.2.2.1) (fun r => [.agg 35 [.int .i64 r.1, .int .i64 r.2.1, .bool r.2.2]])
theorem s_bound_Norm_Quanta_run (L : Nat) (a0_0 : Int) (a0_1 : Int) (a0_2 : Bool) : (s_bound_Norm_Quanta L).run [.agg 35 [.int .i64 a0_0, .int .i64 a0_1, .bool a0_2]] = (p_bound_Norm_Quanta L a0_0 a0_1 a0_2).map fun r => [.agg 35 [.int .i64 r.1, .int .i64 r.2.1, .bool r.2.2]] := specP_run (cCons k35 cNil) (fun x => p_bound_Norm_Quanta L x.1.1 x.1.2.1 x.1.2.2.1) (fun r => [.agg 35 [.int .i64 r.1, .int .i64 r.2.1, .bool r.2.2]]) ((a0_0, a0_1, a0_2, ()), ())
theorem ok_bound_Norm_Quanta (L : Nat) (hL : L ≤ 4611686018427387904) : SpecOk Try.prog 75 (s_bound_Norm_Quanta L) := specP_ok mixed (Go_bound_Norm_Quanta L hL) (To_bound_Norm_Quanta L) fun x r h => ⟨L, 1, e_bound_Norm_Quanta L hL x.1.1 x.1.2.1 x.1.2.2.1 r h⟩
end Go.Proofs.Ytnojehmbiceceaa.P
end
