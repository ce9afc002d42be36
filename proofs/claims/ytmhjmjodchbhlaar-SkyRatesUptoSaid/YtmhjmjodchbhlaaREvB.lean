/- The evaluator's soundness, first part: how its values stand for the model's, and how that survives what is done to memory. -/
import Derived.Test.YtmhjmjodchbhlaaREvR
set_option linter.unusedVariables false
set_option linter.unusedSimpArgs false
set_option linter.unusedSectionVars false
namespace Go.Ev
open Go.RowKit

/-- The cells of a block from an offset on. -/
def cellsAt (w : World) (b o : Nat) (cs : List Value) : Prop :=
  ∃ c e fz, w.heap[b]? = some (.cells c e fz) ∧ ∀ j, j < cs.length → c[o + j]? = cs[j]?

/-- Plain data stands for cells; all memory that it names lies in blocks of S. -/
def Fl (P : Program) (S : Nat → Prop) (w : World) : D → List Value → Prop
  | .bool b, cs => cs = [.bool b]
  | .int k n, cs => cs = [.int k n]
  | .str s, cs => cs = [.string s]
  | .agg t ds, cs => ∃ css : List (List Value), cs = css.flatten ∧ comps P t = some (css.map List.length) ∧ fls ds css
  | .sl e ds, cs => ∃ A cap, cs = [.slice A ds.length cap] ∧ (ds = [] ∨ ∃ (b o : Nat) (css : List (List Value)), A = some ⟨b, o, none⟩ ∧ S b ∧ ds.length ≤ cap ∧
      (∀ c ∈ css, c.length = szOf P e) ∧ cellsAt w b o css.flatten ∧ fls ds css)
  | .ptr x, cs => ∃ (b o : Nat) (xs : List Value), cs = [.pointer (some ⟨b, o, none⟩)] ∧ S b ∧ cellsAt w b o xs ∧ Fl P S w x xs
  | .np, cs => cs = [.pointer none]
where fls : List D → List (List Value) → Prop
  | [], css => css = []
  | d :: ds, css => ∃ c r, css = c :: r ∧ Fl P S w d c ∧ fls ds r

/-- The places of the evaluator's rows: block and capacity. -/
abbrev Sig := Key → Option (Nat × Nat)

def pathOff (P : Program) : List (TypeId × Nat) → Option Nat
  | [] => some 0
  | (t, i) :: r => match comps P t, pathOff P r with
    | some l, some n => if i < l.length then some ((l.take i).sum + n) else none
    | _, _ => none

def RelC (P : Program) (S : Nat → Prop) (σ : Sig) (st : Store) (w : World) : V → List Value → Prop
  | .d x, cs => Fl P S w x cs
  | .agg t vs, cs => ∃ css : List (List Value), cs = css.flatten ∧ comps P t = some (css.map List.length) ∧ rels vs css
  | .p k ver i path, cs => ∃ A, cs = [.pointer (some A)] ∧ ver ≤ (st k).ver ∧ (ver = (st k).ver → (st k).live = true →
      0 < szOf P (st k).e ∧ ∃ b cap off, σ k = some (b, cap) ∧ pathOff P path = some off ∧ A = ⟨b, i * szOf P (st k).e + off, none⟩)
  | .rs er k ver off len full, cs => ∃ A c, cs = [.slice A len c] ∧ len ≤ c ∧ (0 < len → ∃ a, A = some a) ∧ ver ≤ (st k).ver ∧ (ver = (st k).ver → (st k).live = true →
      (st k).e = er ∧ 0 < szOf P er ∧ (σ k = none → off = 0 ∧ c = 0) ∧ ∀ b cap, σ k = some (b, cap) → (c = 0 ∨ A = some ⟨b, off * szOf P (st k).e, none⟩) ∧ off + c ≤ cap ∧ (full = true → off + c = cap))
  | .mp k ver, cs => ∃ r, cs = [.map (some r)] ∧ ver ≤ (st k).ver ∧ (ver = (st k).ver → (st k).live = true → szOf P (st k).e = 0 ∧ ∃ cap, σ k = some (r, cap))
  | .nils e, cs => ∃ A, cs = [.slice A 0 0]
  | .fn f caps, cs => ∃ vals : List Value, cs = [.func (.func f) #[] vals.toArray] ∧ rels caps (vals.map fun v => [v])
  | .tup _, _ => False
  | .und, _ => False
  | .jk, cs => ∃ x : Value, cs = [x] ∧ x.oneCell' = true
where rels : List V → List (List Value) → Prop
  | [], css => css = []
  | v :: vs, css => ∃ c r, css = c :: r ∧ RelC P S σ st w v c ∧ rels vs r

/-- A value that is no list of results. -/
def RelN (P : Program) (S : Nat → Prop) (σ : Sig) (st : Store) (w : World) (v : V) (val : Value) : Prop :=
  v = .und ∨ (v.isAgg = true ∧ ∃ cs : List Value, val = .agg cs.toArray ∧ RelC P S σ st w v cs) ∨ (v.isAgg = false ∧ RelC P S σ st w v [val])
def RelNs (P : Program) (S : Nat → Prop) (σ : Sig) (st : Store) (w : World) : List V → List Value → Prop
  | [], vals => vals = []
  | v :: vs, vals => ∃ x r, vals = x :: r ∧ RelN P S σ st w v x ∧ RelNs P S σ st w vs r
def RelV (P : Program) (S : Nat → Prop) (σ : Sig) (st : Store) (w : World) (v : V) (val : Value) : Prop :=
  match v with
  | .tup vs => ∃ vals : List Value, val = .tuple vals.toArray ∧ RelNs P S σ st w vs vals
  | v => RelN P S σ st w v val

/-- The entries of a map. -/
def MapRel (P : Program) (S : Nat → Prop) (σ : Sig) (st : Store) (w : World) : List V → List MapEntry → Prop
  | [], es => es = []
  | [_], _ => False
  | k :: v :: r, es => ∃ e q, es = e :: q ∧ RelN P S σ st w k e.key ∧ RelN P S σ st w v e.val ∧ MapRel P S σ st w r q
/-- What lies where a row or a map of the store has its place. -/
def Holds (P : Program) (S : Nat → Prop) (σ : Sig) (st : Store) (w : World) (bl : Blk) (cap : Nat) (o : Obj) : Prop :=
  (0 < szOf P bl.e ∧ ∃ (cur : Array Value) (css : List (List Value)), o = .cells cur bl.e (0, 0) ∧
    cur.size = cap * szOf P bl.e ∧ bl.vs.length ≤ cap ∧ cap ≤ maxLen ∧ cur.toList.take (bl.vs.length * szOf P bl.e) = css.flatten ∧
    (∀ c ∈ css, c.length = szOf P bl.e) ∧ RelC.rels P S σ st w bl.vs css) ∨
  (szOf P bl.e = 0 ∧ ∃ (es : Array MapEntry) (clock : Nat), o = .map es clock ∧ MapRel P S σ st w bl.vs es.toList)
/-- The rows and maps of the store as they lie. -/
structure OwnB (P : Program) (B0 : Nat) (S : Nat → Prop) (σ : Sig) (st : Store) (w : World) (k : Key) : Prop where
  none : σ k = .none → (st k).vs = [] ∧ 0 < szOf P (st k).e
  some : ∀ b cap, σ k = .some (b, cap) → B0 ≤ b ∧ b < w.heap.size ∧ ¬ S b ∧ ∃ o, w.heap[b]? = .some o ∧ Holds P S σ st w (st k) cap o
theorem OwnB.row {P : Program} {B0 : Nat} {S : Nat → Prop} {σ : Sig} {st : Store} {w : World} {k : Key} (h : OwnB P B0 S σ st w k) (hpos : 0 < szOf P (st k).e) : (σ k = .none → (st k).vs = []) ∧
    ∀ b cap, σ k = .some (b, cap) → B0 ≤ b ∧ b < w.heap.size ∧ ¬ S b ∧ ∃ (cur : Array Value) (css : List (List Value)), w.heap[b]? = .some (.cells cur (st k).e (0, 0)) ∧
    cur.size = cap * szOf P (st k).e ∧ (st k).vs.length ≤ cap ∧ cap ≤ maxLen ∧ cur.toList.take ((st k).vs.length * szOf P (st k).e) = css.flatten ∧
    (∀ c ∈ css, c.length = szOf P (st k).e) ∧ RelC.rels P S σ st w (st k).vs css := by
  refine ⟨fun hn => (h.none hn).1, fun b cap hs => ?_⟩
  obtain ⟨h1, h2, h3, o, h4, h5⟩ := h.some b cap hs
  rcases h5 with ⟨_, cur, css, rfl, g⟩ | ⟨h0, _⟩
  · exact ⟨h1, h2, h3, cur, css, h4, g⟩
  · omega
structure Inv (P : Program) (B0 : Nat) (S : Nat → Prop) (σ : Sig) (st : Store) (w : World) : Prop where
  base : B0 ≤ w.heap.size
  safe : ∀ b, S b → b < w.heap.size
  own : ∀ k, (st k).live = true → OwnB P B0 S σ st w k
  inj : ∀ k k', (st k).live = true → (st k').live = true → k ≠ k' → ∀ b c b' c', σ k = .some (b, c) → σ k' = .some (b', c') → b ≠ b'

/-- What values in hand survive. -/
structure Evo (S : Nat → Prop) (σ : Sig) (st : Store) (w : World) (S' : Nat → Prop) (σ' : Sig) (st' : Store) (w' : World) : Prop where
  size : w.heap.size ≤ w'.heap.size
  less : ∀ b, S' b → S b ∨ w.heap.size ≤ b
  more : ∀ b, S b → S' b
  keep : ∀ b, S b → w'.heap[b]? = w.heap[b]?
  ver : ∀ k, (st k).ver ≤ (st' k).ver
  same : ∀ k, (st k).ver = (st' k).ver → (st' k).live = true → (st k).live = true ∧ σ' k = σ k ∧ (st' k).e = (st k).e

theorem Evo.refl (S : Nat → Prop) (σ : Sig) (st : Store) (w : World) : Evo S σ st w S σ st w :=
  ⟨Nat.le_refl _, fun _ h => .inl h, fun _ h => h, fun _ _ => rfl, fun _ => Nat.le_refl _, fun _ _ h => ⟨h, rfl, rfl⟩⟩
theorem Evo.trans {S S1 S2 : Nat → Prop} {σ σ1 σ2 : Sig} {st st1 st2 : Store} {w w1 w2 : World} (h : Evo S σ st w S1 σ1 st1 w1) (h' : Evo S1 σ1 st1 w1 S2 σ2 st2 w2) :
    Evo S σ st w S2 σ2 st2 w2 where
  size := Nat.le_trans h.size h'.size
  less b hb := (h'.less b hb).elim (h.less b) (fun q => .inr (Nat.le_trans h.size q))
  more b hb := h'.more b (h.more b hb)
  keep b hb := (h'.keep b (h.more b hb)).trans (h.keep b hb)
  ver k := Nat.le_trans (h.ver k) (h'.ver k)
  same k hv hl := by
    have h1 := h.ver k
    have h2 := h'.ver k
    obtain ⟨l1, s1, e1⟩ := h'.same k (by omega) hl
    obtain ⟨l0, s0, e0⟩ := h.same k (by omega) l1
    exact ⟨l0, s1.trans s0, e1.trans e0⟩

theorem cellsAt.keep {w w' : World} {b o : Nat} {cs : List Value} (h : cellsAt w b o cs) (hk : w'.heap[b]? = w.heap[b]?) : cellsAt w' b o cs := by
  obtain ⟨c, e, fz, h1, h2⟩ := h
  exact ⟨c, e, fz, hk.trans h1, h2⟩

section mono
variable {P : Program} {S S' : Nat → Prop} {w w' : World} (hS : ∀ b, S b → S' b) (hw : ∀ b, S b → w'.heap[b]? = w.heap[b]?)
include hS hw
mutual
theorem Fl.mono : ∀ (x : D) (cs : List Value), Fl P S w x cs → Fl P S' w' x cs
  | .bool b, cs, h => h
  | .int k n, cs, h => h
  | .str s, cs, h => h
  | .agg t ds, cs, h => by
    obtain ⟨css, h1, h2, h3⟩ := h
    exact ⟨css, h1, h2, Fl.monos ds css h3⟩
  | .sl e ds, cs, h => by
    obtain ⟨A, cap, h1, h2⟩ := h
    refine ⟨A, cap, h1, ?_⟩
    rcases h2 with h2 | ⟨b, o, css, hA, hb, hc, hl, hat, hf⟩
    · exact .inl h2
    · exact .inr ⟨b, o, css, hA, hS b hb, hc, hl, hat.keep (hw b hb), Fl.monos ds css hf⟩
  | .ptr x, cs, h => by
    obtain ⟨b, o, xs, h1, h2, h3, h4⟩ := h
    exact ⟨b, o, xs, h1, hS b h2, h3.keep (hw b h2), Fl.mono x xs h4⟩
  | .np, cs, h => h
theorem Fl.monos : ∀ (ds : List D) (css : List (List Value)), Fl.fls P S w ds css → Fl.fls P S' w' ds css
  | [], css, h => h
  | d :: ds, css, h => by
    obtain ⟨c, r, h1, h2, h3⟩ := h
    exact ⟨c, r, h1, Fl.mono d c h2, Fl.monos ds r h3⟩
end
end mono

section evo
variable {P : Program} {S S' : Nat → Prop} {σ σ' : Sig} {st st' : Store} {w w' : World} (hE : Evo S σ st w S' σ' st' w')
include hE
mutual
theorem RelC.mono : ∀ (v : V) (cs : List Value), RelC P S σ st w v cs → RelC P S' σ' st' w' v cs
  | .d x, cs, h => Fl.mono hE.more hE.keep x cs h
  | .agg t vs, cs, h => by
    obtain ⟨css, h1, h2, h3⟩ := h
    exact ⟨css, h1, h2, RelC.monos vs css h3⟩
  | .p k ver i path, cs, h => by
    obtain ⟨A, h1, h2, h3⟩ := h
    refine ⟨A, h1, Nat.le_trans h2 (hE.ver k), fun hv hl => ?_⟩
    have hk := hE.ver k
    obtain ⟨l0, s0, e0⟩ := hE.same k (by omega) hl
    obtain ⟨g0, b, cap, off, g1, g2, g3⟩ := h3 (by omega) l0
    exact ⟨by rw [e0]; exact g0, b, cap, off, s0.trans g1, g2, by rw [e0]; exact g3⟩
  | .rs er k ver off len full, cs, h => by
    obtain ⟨A, c, h1, g1, g2, h2, h3⟩ := h
    refine ⟨A, c, h1, g1, g2, Nat.le_trans h2 (hE.ver k), fun hv hl => ?_⟩
    have hk := hE.ver k
    obtain ⟨l0, s0, e0⟩ := hE.same k (by omega) hl
    have := h3 (by omega) l0
    rw [s0, e0]
    exact this
  | .mp k ver, cs, h => by
    obtain ⟨r, h1, h2, h3⟩ := h
    refine ⟨r, h1, Nat.le_trans h2 (hE.ver k), fun hv hl => ?_⟩
    have hk := hE.ver k
    obtain ⟨l0, s0, e0⟩ := hE.same k (by omega) hl
    obtain ⟨g0, cap, g1⟩ := h3 (by omega) l0
    exact ⟨by rw [e0]; exact g0, cap, s0.trans g1⟩
  | .nils e, cs, h => h
  | .jk, cs, h => h
  | .fn f caps, cs, h => by
    obtain ⟨vals, h1, h2⟩ := h
    exact ⟨vals, h1, RelC.monos caps _ h2⟩
  | .tup _, _, h => h
  | .und, _, h => h
theorem RelC.monos : ∀ (vs : List V) (css : List (List Value)), RelC.rels P S σ st w vs css → RelC.rels P S' σ' st' w' vs css
  | [], css, h => h
  | v :: vs, css, h => by
    obtain ⟨c, r, h1, h2, h3⟩ := h
    exact ⟨c, r, h1, RelC.mono v c h2, RelC.monos vs r h3⟩
end
theorem RelN.mono {v : V} {val : Value} (h : RelN P S σ st w v val) : RelN P S' σ' st' w' v val := by
  rcases h with h | ⟨h1, cs, h2, h3⟩ | ⟨h1, h2⟩
  · exact .inl h
  · exact .inr (.inl ⟨h1, cs, h2, RelC.mono hE v cs h3⟩)
  · exact .inr (.inr ⟨h1, RelC.mono hE v _ h2⟩)
theorem RelNs.mono : ∀ {vs : List V} {vals : List Value}, RelNs P S σ st w vs vals → RelNs P S' σ' st' w' vs vals
  | [], _, h => h
  | v :: vs, _, h => by
    obtain ⟨x, r, h1, h2, h3⟩ := h
    exact ⟨x, r, h1, RelN.mono hE h2, RelNs.mono h3⟩
theorem MapRel.mono : ∀ {vs : List V} {es : List MapEntry}, MapRel P S σ st w vs es → MapRel P S' σ' st' w' vs es
  | [], _, h => h
  | [_], _, h => h.elim
  | k :: v :: r, _, h => by
    obtain ⟨e, q, h1, h2, h3, h4⟩ := h
    exact ⟨e, q, h1, RelN.mono hE h2, RelN.mono hE h3, MapRel.mono h4⟩
theorem Holds.mono {bl : Blk} {cap : Nat} {o : Obj} (h : Holds P S σ st w bl cap o) : Holds P S' σ' st' w' bl cap o := by
  rcases h with ⟨h0, cur, css, h1, h2, h3, h4, h5, h6, h7⟩ | ⟨h0, es, clock, h1, h2⟩
  · exact .inl ⟨h0, cur, css, h1, h2, h3, h4, h5, h6, RelC.monos hE _ _ h7⟩
  · exact .inr ⟨h0, es, clock, h1, MapRel.mono hE h2⟩
theorem RelV.mono {v : V} {val : Value} (h : RelV P S σ st w v val) : RelV P S' σ' st' w' v val := by
  cases v <;> first
    | exact RelN.mono hE h
    | (obtain ⟨vals, h1, h2⟩ := h; exact ⟨vals, h1, RelNs.mono hE h2⟩)
end evo

/-! ### types -/
theorem underlying_info {P : Program} {t : TypeId} {d : TypeDesc} (h : P.underlying t = some d) : ∃ i, P.info? t = some i := by
  unfold Program.underlying at h
  cases hi : P.info? t with
  | none => rw [hi] at h; simp at h
  | some i => exact ⟨i, rfl⟩
theorem szOf_info {P : Program} {t : TypeId} {i : TypeInfo} (h : P.info? t = some i) : szOf P t = i.size := by simp [szOf, Program.cellsOf, h]
theorem bytesOf_info {P : Program} {t : TypeId} {i : TypeInfo} (h : P.info? t = some i) : P.bytesOf t = i.bytes := by simp [Program.bytesOf, h]

theorem tk_sl {P : Program} {t e : TypeId} (h : tk P t = .sl e) : P.underlying t = some (.slice e) ∧ szOf P t = 1 ∧ 0 < szOf P e ∧ ∃ i, P.info? e = some i := by
  unfold tk at h
  split at h
  · split at h <;> cases h
  · split at h <;> cases h
  · rename_i e' hu
    split at h
    · rename_i hc
      cases h
      simp only [Bool.and_eq_true, beq_iff_eq, decide_eq_true_eq] at hc
      exact ⟨hu, hc.1.1, hc.1.2, Option.isSome_iff_exists.1 hc.2⟩
    · cases h
  · split at h <;> cases h
  · cases h
theorem tk_agg {P : Program} {t : TypeId} {n : Nat} {r : Bool} (h : tk P t = .agg n r) : (∃ l, comps P t = some l ∧ l.length = n) ∧ ((∃ fs, P.underlying t = some (.struct fs) ∧ r = false) ∨ ∃ m e, P.underlying t = some (.array m e) ∧ r = true) := by
  unfold tk at h
  split at h
  · rename_i fs hu
    split at h
    · rename_i l hl; cases h; exact ⟨⟨l, hl, rfl⟩, .inl ⟨fs, hu, rfl⟩⟩
    · cases h
  · rename_i m e hu
    split at h
    · rename_i l hl; cases h; exact ⟨⟨l, hl, rfl⟩, .inr ⟨m, e, hu, rfl⟩⟩
    · cases h
  · split at h <;> cases h
  · split at h <;> cases h
  · cases h
theorem tk_one {P : Program} {t : TypeId} (h : tk P t = .one) : szOf P t = 1 ∧ ∃ d, P.underlying t = some d ∧ (∀ fs, d ≠ .struct fs) ∧ (∀ m e, d ≠ .array m e) := by
  unfold tk at h
  split at h
  · split at h <;> cases h
  · split at h <;> cases h
  · split at h <;> cases h
  · rename_i d h1 h2 h3 hu
    split at h
    · rename_i hc
      refine ⟨by simpa using hc, d, hu, fun fs e => ?_, fun m e' e => ?_⟩
      · subst e; exact h1 _ rfl
      · subst e; exact h2 _ _ rfl
    · cases h
  · cases h
theorem offsOk_spec {P : Program} : ∀ (fs : List Field) (acc : Nat), offsOk P acc fs = true → (∀ f, f ∈ fs → 0 < szOf P f.type) ∧
    ∀ (i : Nat) (f : Field), fs[i]? = some f → f.offset = acc + ((fs.map fun f => szOf P f.type).take i).sum
  | [], acc, _ => ⟨fun f h => (by cases h), fun i f h => (by simp at h)⟩
  | g :: fs, acc, h => by
    simp only [offsOk, Bool.and_eq_true, beq_iff_eq, decide_eq_true_eq] at h
    obtain ⟨h1, h2⟩ := offsOk_spec fs _ h.2
    refine ⟨fun f hf => ?_, fun i f hi => ?_⟩
    · rcases List.mem_cons.1 hf with rfl | hf
      · exact h.1.2
      · exact h1 f hf
    · cases i with
      | zero => simp at hi; subst hi; simp [h.1.1]
      | succ i =>
        simp at hi
        have := h2 i f hi
        simp only [List.map_cons, List.take_succ_cons, List.sum_cons]
        omega
theorem comps_struct {P : Program} {t : TypeId} {fs : Array Field} {l : List Nat} (hu : P.underlying t = some (.struct fs)) (h : comps P t = some l) :
    l = (fs.toList.map fun f => szOf P f.type) ∧ offsOk P 0 fs.toList = true ∧ l.sum = szOf P t ∧ 0 < szOf P t := by
  unfold comps at h
  rw [hu] at h
  simp only at h
  split at h
  · rename_i hc
    cases h
    simp only [Bool.and_eq_true, beq_iff_eq, decide_eq_true_eq] at hc
    exact ⟨rfl, hc.1.1, hc.1.2, hc.2⟩
  · cases h
theorem sum_replicate' (n s : Nat) : (List.replicate n s).sum = n * s := by
  induction n with
  | zero => simp
  | succ n ih => simp [List.replicate_succ, ih, Nat.succ_mul]; omega
theorem comps_array {P : Program} {t e : TypeId} {n : Nat} {l : List Nat} (hu : P.underlying t = some (.array n e)) (h : comps P t = some l) :
    l = List.replicate n (szOf P e) ∧ 0 < szOf P e ∧ 2 ≤ n ∧ l.sum = szOf P t := by
  unfold comps at h
  rw [hu] at h
  simp only at h
  split at h
  · rename_i hc
    cases h
    simp only [Bool.and_eq_true, beq_iff_eq, decide_eq_true_eq] at hc
    exact ⟨rfl, hc.1.1, hc.2, by rw [sum_replicate']; exact hc.1.2⟩
  · cases h
theorem comps_cases {P : Program} {t : TypeId} {l : List Nat} (h : comps P t = some l) : (∃ fs, P.underlying t = some (.struct fs)) ∨ ∃ n e, P.underlying t = some (.array n e) := by
  cases hu : P.underlying t with
  | none => unfold comps at h; rw [hu] at h; cases h
  | some d => cases d <;> first
    | exact .inl ⟨_, rfl⟩
    | exact .inr ⟨_, _, rfl⟩
    | (unfold comps at h; rw [hu] at h; cases h)
theorem comps_sum {P : Program} {t : TypeId} {l : List Nat} (h : comps P t = some l) : l.sum = szOf P t := by
  rcases comps_cases h with ⟨fs, hu⟩ | ⟨n, e, hu⟩
  · exact (comps_struct hu h).2.2.1
  · exact (comps_array hu h).2.2.2
theorem comps_szpos {P : Program} {t : TypeId} {l : List Nat} (h : comps P t = some l) : 0 < szOf P t := by
  rcases comps_cases h with ⟨fs, hu⟩ | ⟨n, e, hu⟩
  · exact (comps_struct hu h).2.2.2
  · obtain ⟨rfl, h1, h2, h3⟩ := comps_array hu h
    rw [← h3, sum_replicate']
    exact Nat.mul_pos (by omega) h1
theorem comps_pos {P : Program} {t : TypeId} {l : List Nat} (h : comps P t = some l) : ∀ s ∈ l, 0 < s := by
  rcases comps_cases h with ⟨fs, hu⟩ | ⟨n, e, hu⟩
  · obtain ⟨rfl, ho, _⟩ := comps_struct hu h
    intro s hs
    obtain ⟨f, hf, rfl⟩ := List.mem_map.1 hs
    exact (offsOk_spec _ _ ho).1 f hf
  · obtain ⟨rfl, h0, _⟩ := comps_array hu h
    intro s hs
    rw [List.eq_of_mem_replicate hs]; exact h0
theorem nth_eq {α : Type} : ∀ (l : List α) (i : Nat), nth l i = l[i]?
  | [], _ => by simp [nth]
  | _ :: _, 0 => by simp [nth]
  | _ :: xs, n + 1 => by simp [nth, nth_eq xs n]
/-- The type and the place of a component. -/
theorem comps_at {P : Program} {t e : TypeId} {l : List Nat} {i : Nat} (h : comps P t = some l) (hc : compT P t i = some e) (hi : i < l.length) : l[i]? = some (szOf P e) := by
  rcases comps_cases h with ⟨fs, hu⟩ | ⟨n, e', hu⟩
  · obtain ⟨rfl, ho, _⟩ := comps_struct hu h
    unfold compT compTs at hc
    rw [hu, nth_eq] at hc
    simp only [List.getElem?_map, Option.map_eq_some_iff] at hc
    obtain ⟨f, hf, rfl⟩ := hc
    simp only [List.getElem?_map, hf, Option.map_some]
  · obtain ⟨rfl, h0, _⟩ := comps_array hu h
    unfold compT compTs at hc
    rw [hu, nth_eq] at hc
    simp at hi
    simp [List.getElem?_replicate, hi] at hc ⊢
    rw [hc]

theorem length_flatten' (css : List (List Value)) : css.flatten.length = (css.map List.length).sum := by
  induction css with
  | nil => rfl
  | cons c r ih => simp [ih]
theorem length_flatten_eq {css : List (List Value)} {s : Nat} (h : ∀ c ∈ css, c.length = s) : css.flatten.length = css.length * s := by
  induction css with
  | nil => simp
  | cons c r ih =>
    have := ih (fun c' hc' => h c' (by simp [hc']))
    have := h c (by simp)
    simp only [List.flatten_cons, List.length_append, List.length_cons, Nat.succ_mul]
    omega

theorem fls_length {P : Program} {S : Nat → Prop} {w : World} : ∀ {ds : List D} {css : List (List Value)}, Fl.fls P S w ds css → css.length = ds.length
  | [], _, h => by cases h; rfl
  | d :: ds, _, h => by obtain ⟨c, r, rfl, _, h3⟩ := h; simp [fls_length h3]
theorem rels_length {P : Program} {S : Nat → Prop} {σ : Sig} {st : Store} {w : World} : ∀ {vs : List V} {css : List (List Value)}, RelC.rels P S σ st w vs css → css.length = vs.length
  | [], _, h => by cases h; rfl
  | v :: vs, _, h => by obtain ⟨c, r, rfl, _, h3⟩ := h; simp [rels_length h3]
theorem relNs_length {P : Program} {S : Nat → Prop} {σ : Sig} {st : Store} {w : World} : ∀ {vs : List V} {vals : List Value}, RelNs P S σ st w vs vals → vals.length = vs.length
  | [], _, h => by cases h; rfl
  | v :: vs, _, h => by obtain ⟨c, r, rfl, _, h3⟩ := h; simp [relNs_length h3]
theorem setN_eq {α : Type} : ∀ (l : List α) (i : Nat) (x : α), setN l i x = l.set i x
  | [], _, _ => by simp [setN]
  | _ :: _, 0, _ => by simp [setN]
  | _ :: xs, n + 1, x => by simp [setN, setN_eq xs n]
theorem get_eq : ∀ (l : List V) (i : Nat), V.get l i = l.getD i .und
  | [], _ => by simp [V.get]
  | _ :: _, 0 => by simp [V.get]
  | _ :: xs, n + 1 => by simp [V.get, get_eq xs n]
theorem put_eq : ∀ (l : List V) (i : Nat) (x : V), V.put l i x = l.set i x
  | [], _, _ => by simp [V.put]
  | _ :: _, 0, _ => by simp [V.put]
  | _ :: xs, n + 1, x => by simp [V.put, put_eq xs n]
theorem fls_at {P : Program} {S : Nat → Prop} {w : World} : ∀ {ds : List D} {css : List (List Value)} {i : Nat} {d : D}, Fl.fls P S w ds css → ds[i]? = some d → ∃ c, css[i]? = some c ∧ Fl P S w d c
  | [], _, _, _, _, h => by simp at h
  | x :: ds, _, i, d, h, hi => by
    obtain ⟨c, r, rfl, h2, h3⟩ := h
    cases i with
    | zero => simp at hi; subst hi; exact ⟨c, rfl, h2⟩
    | succ i => simp at hi; simpa using fls_at h3 hi
theorem rels_at {P : Program} {S : Nat → Prop} {σ : Sig} {st : Store} {w : World} : ∀ {vs : List V} {css : List (List Value)} {i : Nat} {v : V}, RelC.rels P S σ st w vs css → vs[i]? = some v → ∃ c, css[i]? = some c ∧ RelC P S σ st w v c
  | [], _, _, _, _, h => by simp at h
  | x :: ds, _, i, d, h, hi => by
    obtain ⟨c, r, rfl, h2, h3⟩ := h
    cases i with
    | zero => simp at hi; subst hi; exact ⟨c, rfl, h2⟩
    | succ i => simp at hi; simpa using rels_at h3 hi
theorem rels_set {P : Program} {S : Nat → Prop} {σ : Sig} {st : Store} {w : World} : ∀ {vs : List V} {css : List (List Value)} {i : Nat} {v : V} {c : List Value}, RelC.rels P S σ st w vs css → RelC P S σ st w v c → RelC.rels P S σ st w (vs.set i v) (css.set i c)
  | [], _, _, _, _, h, _ => by cases h; simp [RelC.rels]
  | x :: ds, _, i, d, c', h, hc => by
    obtain ⟨c, r, rfl, h2, h3⟩ := h
    cases i with
    | zero => exact ⟨c', r, rfl, hc, h3⟩
    | succ i => exact ⟨c, r.set i c', rfl, h2, rels_set h3 hc⟩
theorem rels_map {P : Program} {S : Nat → Prop} {σ : Sig} {st : Store} {w : World} : ∀ {ds : List D} {css : List (List Value)}, Fl.fls P S w ds css → RelC.rels P S σ st w (ds.map V.d) css
  | [], _, h => h
  | d :: ds, _, h => by obtain ⟨c, r, rfl, h2, h3⟩ := h; exact ⟨c, r, rfl, h2, rels_map h3⟩
theorem rels_append {P : Program} {S : Nat → Prop} {σ : Sig} {st : Store} {w : World} : ∀ {vs us : List V} {css dss : List (List Value)}, RelC.rels P S σ st w vs css → RelC.rels P S σ st w us dss → RelC.rels P S σ st w (vs ++ us) (css ++ dss)
  | [], _, _, _, h, h' => by cases h; exact h'
  | v :: vs, _, _, _, h, h' => by obtain ⟨c, r, rfl, h2, h3⟩ := h; exact ⟨c, r ++ _, rfl, h2, rels_append h3 h'⟩
theorem rels_drop {P : Program} {S : Nat → Prop} {σ : Sig} {st : Store} {w : World} : ∀ {vs : List V} {css : List (List Value)} (n : Nat), RelC.rels P S σ st w vs css → RelC.rels P S σ st w (vs.drop n) (css.drop n)
  | [], _, n, h => by cases h; simp [RelC.rels]
  | v :: vs, _, n, h => by
    obtain ⟨c, r, rfl, h2, h3⟩ := h
    cases n with
    | zero => exact ⟨c, r, rfl, h2, h3⟩
    | succ n => exact rels_drop n h3
theorem rels_take {P : Program} {S : Nat → Prop} {σ : Sig} {st : Store} {w : World} : ∀ {vs : List V} {css : List (List Value)} (n : Nat), RelC.rels P S σ st w vs css → RelC.rels P S σ st w (vs.take n) (css.take n)
  | [], _, n, h => by cases h; simp [RelC.rels]
  | v :: vs, _, n, h => by
    obtain ⟨c, r, rfl, h2, h3⟩ := h
    cases n with
    | zero => rfl
    | succ n => exact ⟨c, r.take n, rfl, h2, rels_take n h3⟩
theorem fls_drop {P : Program} {S : Nat → Prop} {w : World} : ∀ {ds : List D} {css : List (List Value)} (n : Nat), Fl.fls P S w ds css → Fl.fls P S w (ds.drop n) (css.drop n)
  | [], _, n, h => by cases h; simp [Fl.fls]
  | v :: vs, _, n, h => by
    obtain ⟨c, r, rfl, h2, h3⟩ := h
    cases n with
    | zero => exact ⟨c, r, rfl, h2, h3⟩
    | succ n => exact fls_drop n h3
theorem fls_take {P : Program} {S : Nat → Prop} {w : World} : ∀ {ds : List D} {css : List (List Value)} (n : Nat), Fl.fls P S w ds css → Fl.fls P S w (ds.take n) (css.take n)
  | [], _, n, h => by cases h; simp [Fl.fls]
  | v :: vs, _, n, h => by
    obtain ⟨c, r, rfl, h2, h3⟩ := h
    cases n with
    | zero => rfl
    | succ n => exact ⟨c, r.take n, rfl, h2, fls_take n h3⟩
end Go.Ev
