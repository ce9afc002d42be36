/- How the arguments of a law read as plain data, where they are of small bulk. -/
import Derived.Test.YtmhjmjodchbhlaaREvQ
import Derived.Test.YtmhjmjodchbhlaaRRows
import Derived.JoinedCond
set_option linter.unusedVariables false
set_option linter.unusedSimpArgs false
namespace Go.Ev
open Go.RowKit
open Go.Proofs.YtmhjmjodchbhlaaR.Rows (uptoBulk uptoBulkAll)
theorem bulk_pos {H : Type} (d : DataW H) : 1 ≤ uptoBulk d := by
  cases d with
  | lit l => cases l <;> simp [uptoBulk]
  | _ => simp [uptoBulk]
theorem bulk_len {H : Type} {l : List (DataW H)} {n : Nat} (h : uptoBulkAll l ≤ n) : l.length ≤ n ∧ ∀ d ∈ l, uptoBulk d ≤ n := by
  induction l generalizing n with
  | nil => exact ⟨Nat.zero_le _, fun d hd => by simp at hd⟩
  | cons a l ih =>
    simp only [uptoBulkAll] at h
    have hp := bulk_pos a
    obtain ⟨h1, h2⟩ := ih (n := n - 1) (by omega)
    refine ⟨by simp only [List.length_cons]; omega, fun d hd => ?_⟩
    rcases List.mem_cons.1 hd with rfl | hd
    · omega
    · have := h2 d hd; omega
/-- What the cells of type t say, as data of a type of Lean's, and the bounds that it keeps, if it is of small bulk. -/
def OpensU (P : Program) (t : TypeId) {α : Type} (en : α → D) (WF : α → Prop) : Prop :=
  ∀ {H : Type} (enc : TypeId × Value → H) (w : World) (fuel : Nat) (cs : List Value) (y : DataW H × List MemPlace),
    DataW.trod enc P w 0 (fun _ => true) true fuel t cs = some y → (y.1.weights P t).all (· ≤ reachBytes) = true → uptoBulk y.1 ≤ 1048576 → ∃ x, Fl P (Old w) w (en x) cs ∧ WF x
theorem OpensU.of {P : Program} {t : TypeId} {α : Type} {en : α → D} {WF : α → Prop} (h : Opens P t en WF) : OpensU P t en WF := fun enc w fuel cs y h1 h2 _ => h enc w fuel cs y h1 h2
theorem OpensU.slice {P : Program} {t e : TypeId} {α : Type} {en : α → D} {WF : α → Prop} {B : Nat} (ht : P.underlying t = some (.slice e)) (hp : 0 < P.cellsOf e) (hB : P.bytesOf e = B) (h : OpensU P e en WF) :
    OpensU P t (fun xs : List α => D.sl e (xs.map en)) (fun xs => xs.length ≤ 1048576 ∧ ∀ x ∈ xs, WF x) := by
  intro H enc w fuel cs y hy hw hu
  rcases DataW.trod_slice ht hy with ⟨rfl, rfl⟩ | ⟨a, len, cap, elems, rest, n, _, rfl, rfl, hb, hl, hm, hlen, hel, _, _⟩
  · exact ⟨[], ⟨none, 0, rfl, .inl rfl⟩, by simp, fun x hx => by simp at hx⟩
  · simp only [DataW.weights, ht, List.all_cons, List.all_append, Bool.and_eq_true, decide_eq_true_eq, List.length_map] at hw
    obtain ⟨hw0, hw1, _⟩ := hw
    have hwe := all_of hw1
    simp only [uptoBulk] at hu
    have hue := bulk_len (l := elems.map (·.1)) (n := 1048576) (by omega)
    have hx : ∀ i, i < len → ∃ (x : α) (c : List Value), c.length = P.cellsOf e ∧ Fl P (Old w) w (en x) c ∧ (∀ j u, c[j]? = some u → w.cell? (a.add (i * P.cellsOf e + j)) = some u) ∧ WF x := by
      intro i hi
      have h1 := hel i hi
      rw [List.getElem?_eq_getElem (by omega)] at h1
      obtain ⟨c, hc, hr⟩ := Option.bind_eq_some_iff.1 h1
      obtain ⟨x, hK, hwf⟩ := h enc w n c _ hr (hwe _ (List.mem_map.2 ⟨_, List.getElem_mem _, rfl⟩)) (hue.2 _ (List.mem_map.2 ⟨_, List.getElem_mem _, rfl⟩))
      obtain ⟨_, hcl, h2⟩ := World.cells?_some hc
      refine ⟨x, c, hcl, hK, fun j u hu => ?_, hwf⟩
      have hj : j < P.cellsOf e := by
        have := (List.getElem?_eq_some_iff.1 hu).1
        omega
      have h3 := h2 j hj
      rw [Go.Addr.add_add] at h3
      rw [h3, hu]
    refine ⟨List.ofFn (n := len) fun i => Classical.choose (hx i.1 i.2), ?_, ?_, ?_⟩
    · refine ⟨some a, cap, by simp, ?_⟩
      by_cases h0 : len = 0
      · left; subst h0; simp
      · right
        have hspec : ∀ i, (hi : i < len) → ∃ c : List Value, c.length = P.cellsOf e ∧ Fl P (Old w) w (en (Classical.choose (hx i hi))) c ∧ (∀ j u, c[j]? = some u → w.cell? (a.add (i * P.cellsOf e + j)) = some u) := by
          intro i hi
          obtain ⟨c, h1, h2, h3, _⟩ := Classical.choose_spec (hx i hi)
          exact ⟨c, h1, h2, h3⟩
        -- all cells, one behind the other
        let css : List (List Value) := List.ofFn (n := len) fun i => Classical.choose (hspec i.1 i.2)
        have hcs : ∀ i (hi : i < len), css[i]? = some (Classical.choose (hspec i hi)) := by
          intro i hi
          simp only [css]
          rw [List.getElem?_ofFn, dif_pos hi]
        have hcl : ∀ c ∈ css, c.length = szOf P e := by
          intro c hc
          obtain ⟨i, rfl⟩ := List.mem_ofFn.1 hc
          exact (Classical.choose_spec (hspec i.1 i.2)).1
        have hcn : css.length = len := by simp [css]
        have hcell : ∀ j u, css.flatten[j]? = some u → w.cell? (a.add j) = some u := by
          intro j u hj
          have hjl := (List.getElem?_eq_some_iff.1 hj).1
          rw [length_flatten_eq hcl, hcn] at hjl
          have hq : j / szOf P e < len := Nat.div_lt_of_lt_mul (by rw [Nat.mul_comm]; exact hjl)
          have hr := Nat.mod_lt j (show 0 < szOf P e from hp)
          have hci := hcs (j / szOf P e) hq
          obtain ⟨g1, g2⟩ := flatten_at hci
          rw [take_sum_const hcl (by omega)] at g2
          obtain ⟨s1, s2, s3⟩ := Classical.choose_spec (hspec (j / szOf P e) hq)
          have hm2 := g2 (j % szOf P e) (by rw [s1]; exact hr)
          have e1 : j / szOf P e * szOf P e + j % szOf P e = j := by rw [Nat.mul_comm]; exact Nat.div_add_mod _ _
          rw [e1, hj] at hm2
          have := s3 (j % szOf P e) u hm2.symm
          have e2 : j / szOf P e * P.cellsOf e + j % szOf P e = j := e1
          rw [e2] at this
          exact this
        have hlp : 0 < css.flatten.length := by rw [length_flatten_eq hcl, hcn]; exact Nat.mul_pos (by omega) hp
        have hfirst := hcell 0 _ (List.getElem?_eq_getElem hlp)
        have ha0 : a.add 0 = a := rfl
        rw [ha0] at hfirst
        obtain ⟨b, o, sp⟩ := a
        have hsp : sp = none := by
          cases sp with
          | none => rfl
          | some q =>
            unfold World.cell? at hfirst
            split at hfirst
            · simp at hfirst
            · cases hfirst
        subst hsp
        have hheap : ∃ c' e' fz, w.heap[b]? = some (.cells c' e' fz) := by
          unfold World.cell? at hfirst
          split at hfirst
          · rename_i c' e' fz hb'; exact ⟨c', e', fz, hb'⟩
          · cases hfirst
        obtain ⟨c', e', fz, hb'⟩ := hheap
        refine ⟨b, o, css, rfl, (Array.getElem?_eq_some_iff.1 hb').1, by simpa using hl, hcl, ⟨c', e', fz, hb', fun j hj => ?_⟩, fls_of (by simp [hcn]) ?_⟩
        · have := hcell j _ (List.getElem?_eq_getElem hj)
          rw [add_none, cell_of_row w b _ c' _ _ hb'] at this
          rw [this, List.getElem?_eq_getElem hj]
        · intro i x c hxi hci
          have hi : i < len := by have := (List.getElem?_eq_some_iff.1 hxi).1; simpa using this
          rw [List.getElem?_ofFn, dif_pos hi] at hxi
          rw [hcs i hi] at hci
          cases hxi
          cases hci
          exact (Classical.choose_spec (hspec i hi)).2.1
    · have := hue.1
      simp only [List.length_ofFn, List.length_map] at this ⊢
      omega
    · intro x hxm
      obtain ⟨i, rfl⟩ := List.mem_ofFn.1 hxm
      obtain ⟨c, _, _, _, h4⟩ := Classical.choose_spec (hx i.1 i.2)
      exact h4

/-- Fields in line, from the cell off on. -/
def OpensFU (P : Program) (fs : List Field) (off : Nat) {α : Type} (en : α → List D) (WF : α → Prop) : Prop :=
  ∀ {H : Type} (enc : TypeId × Value → H) (w : World) (n : Nat) (cs : List Value) (xs : List (DataW H × List MemPlace)), xs.length = fs.length →
    (∀ (i : Nat) (f : Field), fs[i]? = some f → DataW.trod enc P w 0 (fun _ => true) true n f.type ((cs.drop f.offset).take (P.cellsOf f.type)) = xs[i]?) →
    (DataW.weightsEach P (fs.map (·.type)) (xs.map (·.1))).all (· ≤ reachBytes) = true → (∀ y ∈ xs, uptoBulk y.1 ≤ 1048576) → off + (fs.map fun f => szOf P f.type).sum = cs.length → ∃ x css, Fl.fls P (Old w) w (en x) css ∧ css.flatten = cs.drop off ∧ css.map List.length = (fs.map fun f => szOf P f.type) ∧ WF x
theorem OpensFU.nil {P : Program} {off : Nat} : OpensFU P [] off (fun _ : Unit => []) (fun _ => True) := by
  intro H enc w n cs xs hl hf hw hu hc
  exact ⟨(), [], rfl, by simp at hc; simp [hc], rfl, trivial⟩
theorem OpensFU.cons {P : Program} {f : Field} {fs : List Field} {off : Nat} {α β : Type} {en : α → D} {en' : β → List D} {WF : α → Prop} {WF' : β → Prop} (ho : f.offset = off) (h : OpensU P f.type en WF)
    (hr : OpensFU P fs (off + szOf P f.type) en' WF') : OpensFU P (f :: fs) off (fun x : α × β => en x.1 :: en' x.2) (fun x => WF x.1 ∧ WF' x.2) := by
  intro H enc w n cs xs hl hf hw hu hc
  match xs, hl with
  | y :: ys, hl =>
    have h0 := hf 0 f rfl
    rw [ho] at h0
    simp only [List.map_cons, DataW.weightsEach, List.all_append, Bool.and_eq_true] at hw
    simp only [List.map_cons, List.sum_cons] at hc
    obtain ⟨x, hx, hwx⟩ := h enc w n _ _ h0 hw.1 (hu _ (List.mem_cons_self ..))
    obtain ⟨z, css, hz, hfl, hmap, hwz⟩ := hr enc w n cs ys (by simpa using hl) (fun i g hg => by simpa using hf (i + 1) g (by simpa using hg)) hw.2 (fun y hy => hu y (List.mem_cons_of_mem _ hy)) (by omega)
    refine ⟨(x, z), _ :: css, ⟨_, css, rfl, hx, hz⟩, ?_, ?_, hwx, hwz⟩
    · rw [List.flatten_cons, hfl]
      show List.take (szOf P f.type) (List.drop off cs) ++ _ = _
      rw [← List.drop_drop, List.take_append_drop]
    · rw [List.map_cons, hmap, List.map_cons]
      congr 1
      show (List.take (szOf P f.type) (List.drop off cs)).length = _
      simp; omega
theorem OpensU.struct {P : Program} {t : TypeId} {fs : Array Field} {α : Type} {en : α → List D} {WF : α → Prop} (ht : P.underlying t = some (.struct fs)) (hc : comps P t = some (fs.toList.map fun f => szOf P f.type)) (h : OpensFU P fs.toList 0 en WF) : OpensU P t (fun x => D.agg t (en x)) WF := by
  intro H enc w fuel cs y hy hw hu
  obtain ⟨xs, n, rfl, rfl, hl, hlen, hf⟩ := DataW.trod_struct ht hy
  simp only [DataW.weights, ht] at hw
  have hs := comps_sum hc
  obtain ⟨x, css, h1, h2, h3, hwx⟩ := h enc w n cs xs (by simpa using hlen) (fun i f hi => hf i f (by simpa using hi)) hw (fun y hy => (bulk_len (l := xs.map (·.1)) (n := 1048576) (by simp only [uptoBulk] at hu; omega)).2 _ (List.mem_map.2 ⟨_, hy, rfl⟩)) (by rw [hs]; simp only [Nat.zero_add, szOf]; omega)
  exact ⟨x, ⟨css, by simpa using h2.symm, by rw [h3]; exact hc, h1⟩, hwx⟩


/-- The form of a row of small bulk, the reach handed to the contract. -/
theorem returns_cond_sized {H : Type} {enc : TypeId × Value → H} {a : Assume} {C : Checked} {os : Os} {f : FuncId} {fn : Func} {s : OpenSpec} {k : (H : Type) → List (DataW H) → Bool} (hk : s.cond = some k) {F : Stop.Interp} {conds : List PathCond} {apart fresh handsOn again : Bool}
    (own : ownKnob C.prog.godebug = none) (started : os.Started) (noInit : C.prog.inits.idxOf? f = none) (hfn : C.prog.funcs[f]? = some fn)
    (witness : ∃ (w : World) (tape : Tape) (i : Input), w.os = os ∧ (w.forCall tape i).Shaped C.prog ∧ i.vars = [] ∧ Input.okWide C.prog (w.forCall tape i) .any w.heap.size f i ∧
      s.pre6 enc C.prog fn conds apart (w.forCall tape i).memory i.args ∧ a.holds C.prog (lone (Frame.enter C.prog f i.args .normal) [] (w.forCall tape i)))
    (contract : ∀ (W : World) (base : Nat) (args : Array Value) (ds gs : List (DataW H)) (before : List MemPlace),
      (∀ (j : Nat) t v, fn.params[j]? = some t → args[j]? = some v → Value.okWide C.prog W .any base t v) →
      DataW.Whole enc C.prog fn.params.toList s.vars apart W args.toList ds gs before →
      (DataW.weightsEach C.prog (fn.params.toList ++ s.bare.plain.varTypes C.prog) (ds ++ gs)).all (· ≤ reachBytes) = true → k H (ds ++ gs) = true →
      Calls C.prog f args W fun e W' => ∃ v, e = .returned v ∧ (s.at F).post enc C.prog fn apart fresh handsOn again W args v W') :
    ReturnsInHanded a C os f .any (s.pre6 enc C.prog fn conds apart) ((s.at F).post enc C.prog fn apart fresh handsOn again) := by
  refine returnsInHanded_of_calls own started noInit witness ?_
  intro w tape i _ _ _ hok hpre hholds
  obtain ⟨_, _, _, fn', hfn', _, _, _, _, hval⟩ := hok
  have e : fn' = fn := Option.some.inj (hfn'.symm.trans hfn)
  subst e
  obtain ⟨hp1, hz⟩ := hpre
  obtain ⟨ds, gs, before, hw, hc, hkk⟩ := (OpenSpec.pre_some hk conds apart _ _).1 hp1
  have hw' := DataW.Whole.of_heap (w' := w.forCall tape i) (by rfl) hw
  refine (contract (w.forCall tape i) w.heap.size i.args ds gs before hval hw' (hz.weights hw) hkk).mono fun e W' ⟨v, he, hp⟩ => ?_
  subst he
  exact ChangeSpec.post_blind hp
theorem witness_small {H : Type} {enc : TypeId × Value → H} {C : Checked} {os : Os} {f : FuncId} {fn : Func} {s : OpenSpec} {k : (H : Type) → List (DataW H) → Bool} (hk : s.cond = some k) {conds : List PathCond} {apart : Bool} (modest : Bool) (i : Input) (fuel : Nat)
    (hv : (World.plainHolding C.prog os i).variablesB C.prog = true)
    (hr : ((World.plainHolding C.prog os i).heap.toList.drop C.prog.globals.size).take ((begin C.prog (fun _ _ => 0) default).world.heap.size - C.prog.globals.size) =
      (begin C.prog (fun _ _ => 0) default).world.heap.toList.drop C.prog.globals.size)
    (hok : Input.okWideB C.prog (World.plainHolding C.prog os i) f ⟨#[], i.args, []⟩ = true)
    (hx : (match DataW.whole enc C.prog (World.plainHolding C.prog os i).memory fn.params.toList s.vars apart i.args.toList fuel with
      | some x => conds.all (PathCond.test C.prog ⟨fn.params.toList, x.1, s.bare.plain.varTypes C.prog, x.2.1⟩) && k H (x.1 ++ x.2.1)
      | none => false) = true)
    (hsz : s.bare.sizedB enc C.prog fn apart (World.plainHolding C.prog os i).memory i.args fuel = true) :
    ∃ (w : World) (tape : Tape) (i : Input), w.os = os ∧ (w.forCall tape i).Shaped C.prog ∧ i.vars = [] ∧ Input.okWide C.prog (w.forCall tape i) .any w.heap.size f i ∧
      s.pre6 enc C.prog fn conds apart (w.forCall tape i).memory i.args ∧ ({ modest := modest } : Assume).holds C.prog (lone (Frame.enter C.prog f i.args .normal) [] (w.forCall tape i)) := by
  split at hx
  · rename_i x h1
    rw [Bool.and_eq_true] at hx
    exact OpenSpec.witness hk modest i fuel hv hr hok h1 hx.1 hx.2 hsz
  · cases hx
/-- One argument of several: its bulk. -/
theorem bulk_at {H : Type} {ds : List (DataW H)} (h : uptoBulkAll ds ≤ 1048576) {j : Nat} {d : DataW H} (hd : ds[j]? = some d) : uptoBulk d ≤ 1048576 := (bulk_len h).2 d (List.mem_of_getElem? hd)
end Go.Ev
