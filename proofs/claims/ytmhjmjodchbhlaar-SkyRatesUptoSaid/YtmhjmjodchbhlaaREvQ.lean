/- The evaluator and the rows: how the arguments of a law read as plain data, and a law's call. -/
import Derived.Test.YtmhjmjodchbhlaaREvP
import Derived.ChangeArms
import Derived.ChangeSame
import Derived.ChangeOld
import Derived.WideShapes
import Derived.SizedLaws
import Derived.DataElems
import Derived.DataReads
import Derived.Carry
set_option linter.unusedVariables false
set_option linter.unusedSimpArgs false
namespace Go.Ev
open Go.RowKit

/-- What the cells of type t say, as data of a type of Lean's, and the bounds that it keeps. -/
def Opens (P : Program) (t : TypeId) {α : Type} (en : α → D) (WF : α → Prop) : Prop :=
  ∀ {H : Type} (enc : TypeId × Value → H) (w : World) (fuel : Nat) (cs : List Value) (y : DataW H × List MemPlace),
    DataW.trod enc P w 0 (fun _ => true) true fuel t cs = some y → (y.1.weights P t).all (· ≤ reachBytes) = true → ∃ x, Fl P (Old w) w (en x) cs ∧ WF x

theorem Opens.int {P : Program} {t : TypeId} {k : IntKind} (ht : P.underlying t = some (.int k)) : Opens P t (D.int k) (fun x => (Lit.int k x).wf = true) := by
  intro H enc w fuel cs y h _
  obtain ⟨n, rfl, rfl, hw⟩ := DataW.trod_int ht h
  exact ⟨n, rfl, hw⟩
theorem Opens.bool {P : Program} {t : TypeId} (ht : P.underlying t = some .bool) : Opens P t D.bool (fun _ => True) := by
  intro H enc w fuel cs y h _
  obtain ⟨n, rfl, rfl⟩ := DataW.trod_bool ht h
  exact ⟨n, rfl, trivial⟩
theorem Opens.string {P : Program} {t : TypeId} (ht : P.underlying t = some .string) : Opens P t D.str (fun s => s.size ≤ 140737488351232) := by
  intro H enc w fuel cs y h hw
  obtain ⟨s, rfl, rfl, hs⟩ := DataW.trod_string ht h
  refine ⟨s, rfl, ?_⟩
  simp only [DataW.weights, List.all_cons, List.all_nil, Bool.and_true, Array.length_toList] at hw
  exact of_decide_eq_true hw
theorem Opens.iso {P : Program} {t : TypeId} {α β : Type} {en : α → D} {WF : α → Prop} (f : β → α) (g : α → β) (hg : ∀ x, f (g x) = x) (h : Opens P t en WF) : Opens P t (fun y => en (f y)) (fun y => WF (f y)) := by
  intro H enc w fuel cs y hy hw
  obtain ⟨x, hx, hwx⟩ := h enc w fuel cs y hy hw
  exact ⟨g x, by show Fl P (Old w) w (en (f (g x))) cs; rw [hg]; exact hx, by show WF (f (g x)); rw [hg]; exact hwx⟩
theorem all_of {H : Type} {P : Program} {e : TypeId} {l : List (DataW H)} (h : (DataW.weightsAll P e l).all (· ≤ reachBytes) = true) : ∀ y ∈ l, (y.weights P e).all (· ≤ reachBytes) = true := by
  induction l with
  | nil => intro y hy; simp at hy
  | cons a l ih =>
    simp only [DataW.weightsAll, List.all_append, Bool.and_eq_true] at h
    intro y hy
    rcases List.mem_cons.1 hy with rfl | hy
    · exact h.1
    · exact ih h.2 y hy

theorem fls_of {P : Program} {S : Nat → Prop} {w : World} {α : Type} {en : α → D} : ∀ {xs : List α} {css : List (List Value)}, xs.length = css.length → (∀ (i : Nat) (x : α) (c : List Value), xs[i]? = some x → css[i]? = some c → Fl P S w (en x) c) → Fl.fls P S w (xs.map en) css
  | [], [], _, _ => rfl
  | [], _ :: _, h, _ => by simp at h
  | _ :: _, [], h, _ => by simp at h
  | x :: xs, c :: css, hl, h => ⟨c, css, rfl, h 0 x c rfl rfl, fls_of (by simpa using hl) fun i y d hy hd => h (i + 1) y d (by simpa using hy) (by simpa using hd)⟩

theorem Opens.slice {P : Program} {t e : TypeId} {α : Type} {en : α → D} {WF : α → Prop} {B : Nat} (ht : P.underlying t = some (.slice e)) (hp : 0 < P.cellsOf e) (hB : P.bytesOf e = B) (h : Opens P e en WF) :
    Opens P t (fun xs : List α => D.sl e (xs.map en)) (fun xs => xs.length * B ≤ 140737488351232 ∧ ∀ x ∈ xs, WF x) := by
  intro H enc w fuel cs y hy hw
  rcases DataW.trod_slice ht hy with ⟨rfl, rfl⟩ | ⟨a, len, cap, elems, rest, n, _, rfl, rfl, hb, hl, hm, hlen, hel, _, _⟩
  · exact ⟨[], ⟨none, 0, rfl, .inl rfl⟩, by simp, fun x hx => by simp at hx⟩
  · simp only [DataW.weights, ht, List.all_cons, List.all_append, Bool.and_eq_true, decide_eq_true_eq, List.length_map] at hw
    obtain ⟨hw0, hw1, _⟩ := hw
    have hwe := all_of hw1
    have hx : ∀ i, i < len → ∃ (x : α) (c : List Value), c.length = P.cellsOf e ∧ Fl P (Old w) w (en x) c ∧ (∀ j u, c[j]? = some u → w.cell? (a.add (i * P.cellsOf e + j)) = some u) ∧ WF x := by
      intro i hi
      have h1 := hel i hi
      rw [List.getElem?_eq_getElem (by omega)] at h1
      obtain ⟨c, hc, hr⟩ := Option.bind_eq_some_iff.1 h1
      obtain ⟨x, hK, hwf⟩ := h enc w n c _ hr (hwe _ (List.mem_map.2 ⟨_, List.getElem_mem _, rfl⟩))
      obtain ⟨_, hcl, h2⟩ := World.cells?_some hc
      refine ⟨x, c, hcl, hK, fun j u hu => ?_, hwf⟩
      have hj : j < P.cellsOf e := by
        have := (List.getElem?_eq_some_iff.1 hu).1
        omega
      have h3 := h2 j hj
      rw [Go.Addr.add_add] at h3
      rw [h3, hu]
    refine ⟨List.ofFn (n := len) fun i => Classical.choose (hx i.1 i.2), ?_, ?_, ?_⟩
    · refine ⟨some a, cap, by simp, ?_⟩
      by_cases h0 : len = 0
      · left; subst h0; simp
      · right
        have hspec : ∀ i, (hi : i < len) → ∃ c : List Value, c.length = P.cellsOf e ∧ Fl P (Old w) w (en (Classical.choose (hx i hi))) c ∧ (∀ j u, c[j]? = some u → w.cell? (a.add (i * P.cellsOf e + j)) = some u) := by
          intro i hi
          obtain ⟨c, h1, h2, h3, _⟩ := Classical.choose_spec (hx i hi)
          exact ⟨c, h1, h2, h3⟩
        -- all cells, one behind the other
        let css : List (List Value) := List.ofFn (n := len) fun i => Classical.choose (hspec i.1 i.2)
        have hcs : ∀ i (hi : i < len), css[i]? = some (Classical.choose (hspec i hi)) := by
          intro i hi
          simp only [css]
          rw [List.getElem?_ofFn, dif_pos hi]
        have hcl : ∀ c ∈ css, c.length = szOf P e := by
          intro c hc
          obtain ⟨i, rfl⟩ := List.mem_ofFn.1 hc
          exact (Classical.choose_spec (hspec i.1 i.2)).1
        have hcn : css.length = len := by simp [css]
        have hcell : ∀ j u, css.flatten[j]? = some u → w.cell? (a.add j) = some u := by
          intro j u hj
          have hjl := (List.getElem?_eq_some_iff.1 hj).1
          rw [length_flatten_eq hcl, hcn] at hjl
          have hq : j / szOf P e < len := Nat.div_lt_of_lt_mul (by rw [Nat.mul_comm]; exact hjl)
          have hr := Nat.mod_lt j (show 0 < szOf P e from hp)
          have hci := hcs (j / szOf P e) hq
          obtain ⟨g1, g2⟩ := flatten_at hci
          rw [take_sum_const hcl (by omega)] at g2
          obtain ⟨s1, s2, s3⟩ := Classical.choose_spec (hspec (j / szOf P e) hq)
          have hm2 := g2 (j % szOf P e) (by rw [s1]; exact hr)
          have e1 : j / szOf P e * szOf P e + j % szOf P e = j := by rw [Nat.mul_comm]; exact Nat.div_add_mod _ _
          rw [e1, hj] at hm2
          have := s3 (j % szOf P e) u hm2.symm
          have e2 : j / szOf P e * P.cellsOf e + j % szOf P e = j := e1
          rw [e2] at this
          exact this
        have hlp : 0 < css.flatten.length := by rw [length_flatten_eq hcl, hcn]; exact Nat.mul_pos (by omega) hp
        have hfirst := hcell 0 _ (List.getElem?_eq_getElem hlp)
        have ha0 : a.add 0 = a := rfl
        rw [ha0] at hfirst
        obtain ⟨b, o, sp⟩ := a
        have hsp : sp = none := by
          cases sp with
          | none => rfl
          | some q =>
            unfold World.cell? at hfirst
            split at hfirst
            · simp at hfirst
            · cases hfirst
        subst hsp
        have hheap : ∃ c' e' fz, w.heap[b]? = some (.cells c' e' fz) := by
          unfold World.cell? at hfirst
          split at hfirst
          · rename_i c' e' fz hb'; exact ⟨c', e', fz, hb'⟩
          · cases hfirst
        obtain ⟨c', e', fz, hb'⟩ := hheap
        refine ⟨b, o, css, rfl, (Array.getElem?_eq_some_iff.1 hb').1, by simpa using hl, hcl, ⟨c', e', fz, hb', fun j hj => ?_⟩, fls_of (by simp [hcn]) ?_⟩
        · have := hcell j _ (List.getElem?_eq_getElem hj)
          rw [add_none, cell_of_row w b _ c' _ _ hb'] at this
          rw [this, List.getElem?_eq_getElem hj]
        · intro i x c hxi hci
          have hi : i < len := by have := (List.getElem?_eq_some_iff.1 hxi).1; simpa using this
          rw [List.getElem?_ofFn, dif_pos hi] at hxi
          rw [hcs i hi] at hci
          cases hxi
          cases hci
          exact (Classical.choose_spec (hspec i hi)).2.1
    · have : len * B ≤ (elems.length + rest.length) * P.bytesOf e := by rw [hB]; exact Nat.mul_le_mul_right _ (by omega)
      simp only [List.length_ofFn, reachBytes] at hw0 ⊢
      omega
    · intro x hxm
      obtain ⟨i, rfl⟩ := List.mem_ofFn.1 hxm
      obtain ⟨c, _, _, _, h4⟩ := Classical.choose_spec (hx i.1 i.2)
      exact h4

/-- Fields in line, from the cell off on. -/
def OpensF (P : Program) (fs : List Field) (off : Nat) {α : Type} (en : α → List D) (WF : α → Prop) : Prop :=
  ∀ {H : Type} (enc : TypeId × Value → H) (w : World) (n : Nat) (cs : List Value) (xs : List (DataW H × List MemPlace)), xs.length = fs.length →
    (∀ (i : Nat) (f : Field), fs[i]? = some f → DataW.trod enc P w 0 (fun _ => true) true n f.type ((cs.drop f.offset).take (P.cellsOf f.type)) = xs[i]?) →
    (DataW.weightsEach P (fs.map (·.type)) (xs.map (·.1))).all (· ≤ reachBytes) = true → off + (fs.map fun f => szOf P f.type).sum = cs.length → ∃ x css, Fl.fls P (Old w) w (en x) css ∧ css.flatten = cs.drop off ∧ css.map List.length = (fs.map fun f => szOf P f.type) ∧ WF x
theorem OpensF.nil {P : Program} {off : Nat} : OpensF P [] off (fun _ : Unit => []) (fun _ => True) := by
  intro H enc w n cs xs hl hf hw hc
  exact ⟨(), [], rfl, by simp at hc; simp [hc], rfl, trivial⟩
theorem OpensF.cons {P : Program} {f : Field} {fs : List Field} {off : Nat} {α β : Type} {en : α → D} {en' : β → List D} {WF : α → Prop} {WF' : β → Prop} (ho : f.offset = off) (h : Opens P f.type en WF)
    (hr : OpensF P fs (off + szOf P f.type) en' WF') : OpensF P (f :: fs) off (fun x : α × β => en x.1 :: en' x.2) (fun x => WF x.1 ∧ WF' x.2) := by
  intro H enc w n cs xs hl hf hw hc
  match xs, hl with
  | y :: ys, hl =>
    have h0 := hf 0 f rfl
    rw [ho] at h0
    simp only [List.map_cons, DataW.weightsEach, List.all_append, Bool.and_eq_true] at hw
    simp only [List.map_cons, List.sum_cons] at hc
    obtain ⟨x, hx, hwx⟩ := h enc w n _ _ h0 hw.1
    obtain ⟨z, css, hz, hfl, hmap, hwz⟩ := hr enc w n cs ys (by simpa using hl) (fun i g hg => by simpa using hf (i + 1) g (by simpa using hg)) hw.2 (by omega)
    refine ⟨(x, z), _ :: css, ⟨_, css, rfl, hx, hz⟩, ?_, ?_, hwx, hwz⟩
    · rw [List.flatten_cons, hfl]
      show List.take (szOf P f.type) (List.drop off cs) ++ _ = _
      rw [← List.drop_drop, List.take_append_drop]
    · rw [List.map_cons, hmap, List.map_cons]
      congr 1
      show (List.take (szOf P f.type) (List.drop off cs)).length = _
      simp; omega
theorem Opens.struct {P : Program} {t : TypeId} {fs : Array Field} {α : Type} {en : α → List D} {WF : α → Prop} (ht : P.underlying t = some (.struct fs)) (hc : comps P t = some (fs.toList.map fun f => szOf P f.type)) (h : OpensF P fs.toList 0 en WF) : Opens P t (fun x => D.agg t (en x)) WF := by
  intro H enc w fuel cs y hy hw
  obtain ⟨xs, n, rfl, rfl, hl, hlen, hf⟩ := DataW.trod_struct ht hy
  simp only [DataW.weights, ht] at hw
  have hs := comps_sum hc
  obtain ⟨x, css, h1, h2, h3, hwx⟩ := h enc w n cs xs (by simpa using hlen) (fun i f hi => hf i f (by simpa using hi)) hw (by rw [hs]; simp only [Nat.zero_add, szOf]; omega)
  exact ⟨x, ⟨css, by simpa using h2.symm, by rw [h3]; exact hc, h1⟩, hwx⟩

/-- One argument of several: its weights. -/
theorem weight_at {H : Type} {P : Program} : ∀ {ts : List TypeId} {ds : List (DataW H)} {j : Nat} {t : TypeId} {d : DataW H}, (DataW.weightsEach P ts ds).all (· ≤ reachBytes) = true → ts[j]? = some t → ds[j]? = some d → (d.weights P t).all (· ≤ reachBytes) = true
  | [], _, _, _, _, _, ht, _ => by simp at ht
  | _ :: _, [], _, _, _, _, _, hd => by simp at hd
  | t' :: ts, d' :: ds, 0, t, d, h, ht, hd => by
    simp only [DataW.weightsEach, List.all_append, Bool.and_eq_true] at h
    simp only [List.getElem?_cons_zero, Option.some.injEq] at ht hd
    subst ht; subst hd
    exact h.1
  | t' :: ts, d' :: ds, j + 1, t, d, h, ht, hd => by
    simp only [DataW.weightsEach, List.all_append, Bool.and_eq_true] at h
    exact weight_at h.2 (by simpa using ht) (by simpa using hd)

/-- An argument that is an aggregate. -/
theorem arg_agg {P : Program} {S : Nat → Prop} {σ : Sig} {st : Store} {w : World} {x : D} {cs : Array Value} (hx : (V.d x).isAgg = true) (h : Fl P S w x cs.toList) : RelN P S σ st w (.d x) (.agg cs) :=
  .inr (.inl ⟨hx, cs.toList, by simp, h⟩)
theorem arg_one {P : Program} {S : Nat → Prop} {σ : Sig} {st : Store} {w : World} {x : D} {v : Value} (hx : (V.d x).isAgg = false) (h : Fl P S w x [v]) : RelN P S σ st w (.d x) v := .inr (.inr ⟨hx, h⟩)

/-- The law's call, as the form asks for it. -/
theorem law_calls {P : Program} {f : FuncId} {fn : Func} {args : Array Value} {w : World} {b : Bool} {S : Nat → Prop} (hf : P.funcs[f]? = some fn) (hn : (fn.name == "runtime.NumGoroutine") = false) (hb : fn.body.isNone = false)
    (h : CallIn P f args w fun val w' => Below w.heap.size w w' ∧ ResOk P (Plus S w w') w' [.bool b] val) : Calls P f args w fun e w' => e = .returned (.bool b) ∧ Below w.heap.size w w' := by
  rcases h with ⟨fn', h1, h2, h3, h4⟩ | ⟨v, w', h1, _⟩
  · refine h4.mono ?_
    rintro e w' ⟨v, rfl, hbel, hr⟩
    have := hr (fun _ => none) empty
    exact ⟨by rw [relV_bool (show RelV P _ _ _ w' (.d (.bool b)) v from this)], hbel⟩
  · exfalso
    unfold callFunc at h1
    simp only [Sem.run_bind, run_program, Result.andThen_ok, hf, hn, hb, Bool.false_eq_true, if_false, Sem.run_pure] at h1
    cases h1
end Go.Ev
