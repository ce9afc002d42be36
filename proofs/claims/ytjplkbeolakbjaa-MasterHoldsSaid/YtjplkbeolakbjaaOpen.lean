/- How the arguments of a law read: out of the form's reading of a value, the value of its kind, and the bounds that it keeps. Plain theorems over any program; no conditions beyond those stated. -/
import Derived.Test.YtjplkbeolakbjaaVHolds0
import Derived.ChangeArms
import Derived.ChangeSame
import Derived.ChangeOld
import Derived.WideShapes
import Derived.SizedLaws
import Derived.DataElems
import Derived.DataReads
import Derived.Carry
set_option linter.unusedVariables false
set_option linter.unusedSimpArgs false
namespace Go.Proofs.Ytjplkbeolakbjaa.Open
open Go.RowKit Go.Proofs.YtjplkbeolakbjaaW.PrintWords

/-- What a value's cells of type t say, by kind, and the bounds that it keeps. -/
def Opens (P : Program) (t : TypeId) {α : Type} (d : Kd α) (WF : α → Prop) : Prop :=
  ∀ {H : Type} (enc : TypeId × Value → H) (w : World) (fuel : Nat) (cs : List Value) (y : DataW H × List MemPlace),
    DataW.trod enc P w 0 (fun _ => true) true fuel t cs = some y → (y.1.weights P t).all (· ≤ reachBytes) = true → ∃ x, d.K w x cs ∧ WF x

theorem Opens.imp {P : Program} {t : TypeId} {α : Type} {d : Kd α} {WF WF' : α → Prop} (h : Opens P t d WF) (hi : ∀ x, WF x → WF' x) : Opens P t d WF' := by
  intro H enc w fuel cs y hy hw
  obtain ⟨x, hx, hwf⟩ := h enc w fuel cs y hy hw
  exact ⟨x, hx, hi x hwf⟩
theorem Opens.int {P : Program} {t : TypeId} {k : IntKind} (ht : P.underlying t = some (.int k)) : Opens P t (Kd.int k) (fun x => (Lit.int k x).wf = true) := by
  intro H enc w fuel cs y h _
  obtain ⟨n, rfl, rfl, hw⟩ := DataW.trod_int ht h
  exact ⟨n, rfl, hw⟩
theorem Opens.bool {P : Program} {t : TypeId} (ht : P.underlying t = some .bool) : Opens P t Kd.bool (fun _ => True) := by
  intro H enc w fuel cs y h _
  obtain ⟨n, rfl, rfl⟩ := DataW.trod_bool ht h
  exact ⟨n, rfl, trivial⟩
theorem Opens.string {P : Program} {t : TypeId} (ht : P.underlying t = some .string) : Opens P t Kd.string (fun s => s.size ≤ 140737488351232) := by
  intro H enc w fuel cs y h hw
  obtain ⟨s, rfl, rfl, hs⟩ := DataW.trod_string ht h
  refine ⟨s, rfl, ?_⟩
  simp only [DataW.weights, List.all_cons, List.all_nil, Bool.and_true, Array.length_toList] at hw
  exact of_decide_eq_true hw

theorem all_of {H : Type} {P : Program} {e : TypeId} {l : List (DataW H)} (h : (DataW.weightsAll P e l).all (· ≤ reachBytes) = true) : ∀ y ∈ l, (y.weights P e).all (· ≤ reachBytes) = true := by
  induction l with
  | nil => intro y hy; simp at hy
  | cons a l ih =>
    simp only [DataW.weightsAll, List.all_append, Bool.and_eq_true] at h
    intro y hy
    rcases List.mem_cons.1 hy with rfl | hy
    · exact h.1
    · exact ih h.2 y hy

theorem Opens.slice {P : Program} {t e : TypeId} {α : Type} {d : Kd α} {WF : α → Prop} {B : Nat} (ht : P.underlying t = some (.slice e)) (hs : P.cellsOf e = d.sz) (hB : P.bytesOf e = B) (h : Opens P e d WF) :
    Opens P t (Kd.slice e d) (fun xs => xs.length * B ≤ 140737488351232 ∧ ∀ x ∈ xs, WF x) := by
  intro H enc w fuel cs y hy hw
  rcases DataW.trod_slice ht hy with ⟨rfl, rfl⟩ | ⟨a, len, cap, elems, rest, n, _, rfl, rfl, hb, hl, hm, hlen, hel, _, _⟩
  · exact ⟨[], ⟨none, 0, rfl, Nat.le_refl _, rfl, by simp, fun hp => absurd hp (by simp)⟩, by simp, fun x hx => by simp at hx⟩
  · simp only [DataW.weights, ht, List.all_cons, List.all_append, Bool.and_eq_true, decide_eq_true_eq, List.length_map] at hw
    obtain ⟨hw0, hw1, _⟩ := hw
    have hwe := all_of hw1
    have hx : ∀ i, i < len → ∃ (x : α) (c : List Value), c.length = d.sz ∧ d.K w x c ∧ (∀ j u, c[j]? = some u → w.cell? (a.add (i * d.sz + j)) = some u) ∧ WF x := by
      intro i hi
      have h1 := hel i hi
      rw [List.getElem?_eq_getElem (by omega)] at h1
      obtain ⟨c, hc, hr⟩ := Option.bind_eq_some_iff.1 h1
      obtain ⟨x, hK, hwf⟩ := h enc w n c _ hr (hwe _ (List.mem_map.2 ⟨_, List.getElem_mem _, rfl⟩))
      have hcl := d.K_len hK
      refine ⟨x, c, hcl, hK, fun j u hu => ?_, hwf⟩
      have hj : j < d.sz := by
        have := (List.getElem?_eq_some_iff.1 hu).1
        omega
      rw [hs] at hc
      obtain ⟨_, h2⟩ := World.cells?_some hc
      have h3 := h2.2 j hj
      rw [Go.Addr.add_add] at h3
      rw [h3, hu]
    refine ⟨List.ofFn (n := len) fun i => Classical.choose (hx i.1 i.2), ⟨some a, cap, by simp, by simpa using hl, ?_⟩, ?_, ?_⟩
    · refine ⟨rfl, by simp only [List.length_ofFn]; simp only [maxLen] at hm; omega, fun _ => ⟨a, rfl, fun j p hp => ?_⟩⟩
      have hj : j < len := by have := (List.getElem?_eq_some_iff.1 hp).1; simpa using this
      rw [List.getElem?_ofFn, dif_pos hj] at hp
      obtain rfl := Option.some.inj hp
      obtain ⟨c, h1, h2, h3, _⟩ := Classical.choose_spec (hx j hj)
      exact ⟨c, h1, h2, h3⟩
    · have : len * B ≤ (elems.length + rest.length) * P.bytesOf e := by rw [hB]; exact Nat.mul_le_mul_right _ (by omega)
      simp only [List.length_ofFn, reachBytes] at hw0 ⊢
      omega
    · intro x hxm
      obtain ⟨i, rfl⟩ := List.mem_ofFn.1 hxm
      obtain ⟨c, _, _, _, h4⟩ := Classical.choose_spec (hx i.1 i.2)
      exact h4

/-- Fields in line, from the cell off on. -/
def OpensF (P : Program) (fs : List Field) (off : Nat) {α : Type} (d : Kd α) (WF : α → Prop) : Prop :=
  ∀ {H : Type} (enc : TypeId × Value → H) (w : World) (n : Nat) (cs : List Value) (xs : List (DataW H × List MemPlace)), xs.length = fs.length →
    (∀ (i : Nat) (f : Field), fs[i]? = some f → DataW.trod enc P w 0 (fun _ => true) true n f.type ((cs.drop f.offset).take (P.cellsOf f.type)) = xs[i]?) →
    (DataW.weightsEach P (fs.map (·.type)) (xs.map (·.1))).all (· ≤ reachBytes) = true → cs.length = off + d.sz → ∃ x, d.K w x (cs.drop off) ∧ WF x
theorem OpensF.one {P : Program} {f : Field} {off : Nat} {α : Type} {d : Kd α} {WF : α → Prop} (ho : f.offset = off) (hs : P.cellsOf f.type = d.sz) (h : Opens P f.type d WF) : OpensF P [f] off d WF := by
  intro H enc w n cs xs hl hf hw hc
  match xs, hl with
  | [y], _ =>
    have h0 := hf 0 f rfl
    rw [ho, hs, List.take_of_length_le (by simp; omega)] at h0
    simp only [List.map_cons, List.map_nil, DataW.weightsEach, List.append_nil] at hw
    exact h enc w n _ _ h0 hw
theorem OpensF.cons {P : Program} {f : Field} {fs : List Field} {off : Nat} {α β : Type} {a : Kd α} {b : Kd β} {WF : α → Prop} {WF' : β → Prop} (ho : f.offset = off) (hs : P.cellsOf f.type = a.sz) (h : Opens P f.type a WF)
    (hr : OpensF P fs (off + a.sz) b WF') : OpensF P (f :: fs) off (Kd.pair a b) (fun x => WF x.1 ∧ WF' x.2) := by
  intro H enc w n cs xs hl hf hw hc
  match xs, hl with
  | y :: ys, hl =>
    have h0 := hf 0 f rfl
    rw [ho, hs] at h0
    simp only [List.map_cons, DataW.weightsEach, List.all_append, Bool.and_eq_true] at hw
    obtain ⟨x, hx, hwx⟩ := h enc w n _ _ h0 hw.1
    obtain ⟨z, hz, hwz⟩ := hr enc w n cs ys (by simpa using hl) (fun i g hg => by simpa using hf (i + 1) g (by simpa using hg)) hw.2 (by simp only [Kd.pair] at hc; omega)
    refine ⟨(x, z), ⟨_, _, ?_, hx, hz⟩, hwx, hwz⟩
    rw [← List.drop_drop, List.take_append_drop]
theorem Opens.struct {P : Program} {t : TypeId} {fs : Array Field} {α : Type} {d : Kd α} {WF : α → Prop} (ht : P.underlying t = some (.struct fs)) (hs : P.cellsOf t = d.sz) (h : OpensF P fs.toList 0 d WF) : Opens P t d WF := by
  intro H enc w fuel cs y hy hw
  obtain ⟨xs, n, rfl, rfl, hl, hlen, hf⟩ := DataW.trod_struct ht hy
  simp only [DataW.weights, ht] at hw
  obtain ⟨x, hx, hwx⟩ := h enc w n cs xs (by simpa using hlen) (fun i f hi => hf i f (by simpa using hi)) hw (by omega)
  exact ⟨x, by simpa using hx, hwx⟩
theorem Opens.iso {P : Program} {t : TypeId} {α β : Type} {d : Kd α} {WF : α → Prop} (f : β → α) (g : α → β) (hg : ∀ x, f (g x) = x) (h : Opens P t d WF) : Opens P t (Kd.iso d f) (fun y => WF (f y)) := by
  intro H enc w fuel cs y hy hw
  obtain ⟨x, hx, hwx⟩ := h enc w fuel cs y hy hw
  exact ⟨g x, by simpa [Kd.iso, hg] using hx, by simpa [hg] using hwx⟩
/-- One argument of several: its weights. -/
theorem weight_at {H : Type} {P : Program} : ∀ {ts : List TypeId} {ds : List (DataW H)} {j : Nat} {t : TypeId} {d : DataW H}, (DataW.weightsEach P ts ds).all (· ≤ reachBytes) = true → ts[j]? = some t → ds[j]? = some d → (d.weights P t).all (· ≤ reachBytes) = true
  | [], _, _, _, _, _, ht, _ => by simp at ht
  | _ :: _, [], _, _, _, _, _, hd => by simp at hd
  | t' :: ts, d' :: ds, 0, t, d, h, ht, hd => by
    simp only [DataW.weightsEach, List.all_append, Bool.and_eq_true] at h
    simp only [List.getElem?_cons_zero, Option.some.injEq] at ht hd
    subst ht; subst hd
    exact h.1
  | t' :: ts, d' :: ds, j + 1, t, d, h, ht, hd => by
    simp only [DataW.weightsEach, List.all_append, Bool.and_eq_true] at h
    exact weight_at h.2 (by simpa using ht) (by simpa using hd)
end Go.Proofs.Ytjplkbeolakbjaa.Open
