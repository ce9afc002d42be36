/- The evaluator's soundness, third part: what an operation does to the store and to memory. -/
import Derived.MapKept
import Derived.Test.YtmhjmjodchbhlaaREvC
set_option linter.unusedVariables false
set_option linter.unusedSimpArgs false
set_option linter.unusedSectionVars false
namespace Go.Ev
open Go.RowKit

theorem keq_iff {k k' : Key} : keq k k' = true ↔ k = k' := by
  obtain ⟨a, b⟩ := k
  obtain ⟨c, d⟩ := k'
  simp [keq]
theorem upd_same (st : Store) (k : Key) (b : Blk) : upd st k b k = b := by simp [upd, keq_iff.2 rfl]
theorem upd_other (st : Store) (k : Key) (b : Blk) {k' : Key} (h : k' ≠ k) : upd st k b k' = st k' := by
  have : keq k' k = false := by
    cases hq : keq k' k
    · rfl
    · exact absurd (keq_iff.1 hq) h
  simp [upd, this]
def updS (σ : Sig) (k : Key) (x : Option (Nat × Nat)) : Sig := fun k' => if k' = k then x else σ k'
theorem updS_same (σ : Sig) (k : Key) (x : Option (Nat × Nat)) : updS σ k x k = x := by simp [updS]
theorem updS_other (σ : Sig) (k : Key) (x : Option (Nat × Nat)) {k' : Key} (h : k' ≠ k) : updS σ k x k' = σ k' := by simp [updS, h]

/-- An operation's run answers as the evaluator does. -/
def OpOk (P : Program) (B0 : Nat) (S : Nat → Prop) (σ : Sig) (st : Store) (w : World) (r : Result Next) (v : V) (st' : Store) : Prop :=
  ∃ (val : Value) (nx : Next) (w' : World) (S' : Nat → Prop) (σ' : Sig), r = .ok nx w' ∧ (nx = .value val ∨ (nx = .skip ∧ val = undef)) ∧ Inv P B0 S' σ' st' w' ∧ Evo S σ st w S' σ' st' w' ∧
    Below B0 w w' ∧ RelV P S' σ' st' w' v val

section
variable {P : Program} {B0 : Nat} {S : Nat → Prop} {σ : Sig} {st : Store} {w : World}

theorem OpOk.same {r : Result Next} {v : V} {val : Value} (hI : Inv P B0 S σ st w) (hr : r = .ok (.value val) w) (h : RelV P S σ st w v val) : OpOk P B0 S σ st w r v st :=
  ⟨val, _, w, S, σ, hr, .inl rfl, hI, Evo.refl .., Below.refl _ _, h⟩

theorem splice_take {L cx : List Value} {p N : Nat} (h1 : p + cx.length ≤ N) (h2 : N ≤ L.length) :
    (L.take p ++ cx ++ L.drop (p + cx.length)).take N = (L.take N).take p ++ cx ++ (L.take N).drop (p + cx.length) := by
  have hF : (L.take N).length = N := by simp; omega
  have e1 : L.take p = (L.take N).take p := by rw [List.take_take, Nat.min_eq_left (by omega)]
  have e2 : L.drop (p + cx.length) = (L.take N).drop (p + cx.length) ++ L.drop N := by
    conv => lhs; rw [← List.take_append_drop N L]
    rw [List.drop_append, hF, show p + cx.length - N = 0 by omega]; simp
  rw [e1, e2, ← List.append_assoc]
  have hl : ((L.take N).take p ++ cx ++ (L.take N).drop (p + cx.length)).length = N := by
    simp only [List.length_append, List.length_drop, hF]
    rw [List.length_take, hF]; omega
  conv => lhs; rw [← hl]
  rw [hl]
  exact List.take_left' hl

theorem alloc_size (w : World) (o : Obj) : (w.alloc o).heap.size = w.heap.size + 1 := by show (w.heap.push o).size = _; simp
theorem take_sum_const {css : List (List Value)} {s i : Nat} (h : ∀ c ∈ css, c.length = s) (hi : i ≤ css.length) : ((css.map List.length).take i).sum = i * s := by
  induction css generalizing i with
  | nil => simp at hi; subst hi; simp
  | cons c r ih =>
    cases i with
    | zero => simp
    | succ i =>
      simp only [List.map_cons, List.take_succ_cons, List.sum_cons]
      rw [ih (fun c' hc' => h c' (by simp [hc'])) (by simpa using hi), h c (by simp), Nat.succ_mul]; omega

/-! ### a new row -/
theorem newBlk_ok {k : Key} {e : TypeId} {vs : List V} {css : List (List Value)} {cur : Array Value} {cap : Nat} {w0 : World} (hI : Inv P B0 S σ st w0) (hw : w0.heap = w.heap) (hb : Below B0 w0 w)
    (hpos : 0 < szOf P e) (hcss : ∀ c ∈ css, c.length = szOf P e) (hrel : RelC.rels P S σ st w vs css)
    (hsz : cur.size = cap * szOf P e) (hle : vs.length ≤ cap) (hcap : cap ≤ maxLen) (htake : cur.toList.take (vs.length * szOf P e) = css.flatten) :
    Inv P B0 S (updS σ k (some (w.heap.size, cap))) (newBlk st k e vs) (w.alloc (.cells cur e)) ∧ Evo S σ st w S (updS σ k (some (w.heap.size, cap))) (newBlk st k e vs) (w.alloc (.cells cur e)) ∧
    Below B0 w0 (w.alloc (.cells cur e)) := by
  have hold : ∀ b, b < w.heap.size → (w.alloc (.cells cur e)).heap[b]? = w.heap[b]? := fun b hb => heap_alloc_old w _ hb
  have hE : Evo S σ st w S (updS σ k (some (w.heap.size, cap))) (newBlk st k e vs) (w.alloc (.cells cur e)) := by
    refine ⟨by rw [alloc_size]; omega, fun _ h => .inl h, fun _ h => h, fun b hb => hold b (hw ▸ hI.safe b hb), fun k' => ?_, fun k' hv hl => ?_⟩
    · by_cases hk : k' = k
      · subst hk; simp [newBlk, upd_same]
      · simp [newBlk, upd_other _ _ _ hk]
    · by_cases hk : k' = k
      · subst hk; simp [newBlk, upd_same] at hv
      · rw [newBlk, upd_other _ _ _ hk] at hv hl
        rw [newBlk, upd_other _ _ _ hk]
        exact ⟨hl, updS_other _ _ _ hk, rfl⟩
  refine ⟨⟨?_, ?_, ?_, ?_⟩, hE, hb.trans (Below.alloc (Below.refl _ _) (hw ▸ hI.base) _)⟩
  · have := hI.base; rw [alloc_size, ← hw]; omega
  · intro b hb; have := hI.safe b hb; rw [alloc_size, ← hw]; omega
  · intro k' hl
    by_cases hk : k' = k
    · subst hk
      refine ⟨fun h => by simp [updS_same] at h, fun b c h => ?_⟩
      simp [updS_same] at h
      obtain ⟨rfl, rfl⟩ := h
      refine ⟨hw ▸ hI.base, by rw [alloc_size]; omega, fun hs => ?_, _, heap_alloc_new w _, ?_⟩
      · have := hI.safe _ hs; rw [hw] at this; omega
      · simp only [newBlk, upd_same]
        exact .inl ⟨hpos, cur, css, rfl, hsz, hle, hcap, htake, hcss, RelC.monos hE vs css hrel⟩
    · rw [newBlk, upd_other _ _ _ hk] at hl
      obtain ⟨h2, h3⟩ := hI.own k' hl
      refine ⟨fun h => ?_, fun b c h => ?_⟩
      · rw [newBlk, upd_other _ _ _ hk]; rw [updS_other _ _ _ hk] at h; exact h2 h
      · rw [updS_other _ _ _ hk] at h
        obtain ⟨g1, g2, g3, o, g4, g5⟩ := h3 b c h
        rw [hw] at g2 g4
        refine ⟨g1, by rw [alloc_size]; omega, g3, o, (hold b g2).trans g4, ?_⟩
        rw [newBlk, upd_other _ _ _ hk]
        have hE0 : Evo S σ st w0 S σ st w := ⟨by rw [hw]; exact Nat.le_refl _, fun _ h => .inl h, fun _ h => h, fun b _ => by rw [hw], fun _ => Nat.le_refl _, fun _ _ h => ⟨h, rfl, rfl⟩⟩
        exact Holds.mono (hE0.trans hE) g5
  · intro k1 k2 l1 l2 hne b c b' c' e1 e2
    have hlt : ∀ k' b c, (st k').live = true → σ k' = some (b, c) → b < w.heap.size := fun k' b c hl h => hw ▸ ((hI.own k' hl).some b c h).2.1
    by_cases hk1 : k1 = k
    · subst hk1
      have hk2 : k2 ≠ k1 := fun h => hne h.symm
      rw [updS_same] at e1; rw [updS_other _ _ _ hk2] at e2
      rw [newBlk, upd_other _ _ _ hk2] at l2
      have := hlt k2 b' c' l2 e2
      simp at e1; omega
    · rw [updS_other _ _ _ hk1] at e1
      rw [newBlk, upd_other _ _ _ hk1] at l1
      by_cases hk2 : k2 = k
      · subst hk2
        rw [updS_same] at e2
        have := hlt k1 b c l1 e1
        simp at e2; omega
      · rw [updS_other _ _ _ hk2] at e2
        rw [newBlk, upd_other _ _ _ hk2] at l2
        exact hI.inj k1 k2 l1 l2 hne b c b' c' e1 e2

theorem rels_one {v : V} {c : List Value} (h : RelC P S σ st w v c) : RelC.rels P S σ st w [v] [c] := ⟨c, [], rfl, h, rfl⟩

/-- A new variable. -/
theorem newVar_ok {k : Key} {t : TypeId} {v : V} {cells : Array Value} (hI : Inv P B0 S σ st w) (ht : hasT P t v = true) (hc : RelC P S σ st w v cells.toList) :
    ∃ σ', Inv P B0 S σ' (newBlk st k t [v]) (w.alloc (.cells cells t)) ∧ Evo S σ st w S σ' (newBlk st k t [v]) (w.alloc (.cells cells t)) ∧ Below B0 w (w.alloc (.cells cells t)) ∧
      RelV P S σ' (newBlk st k t [v]) (w.alloc (.cells cells t)) (.p k ((st k).ver + 1) 0 []) (.pointer (some ⟨w.heap.size, 0, none⟩)) := by
  have hl := hasT_length ht hc
  have hpos : 0 < szOf P t := by
    cases hv : v.isAgg
    · rcases hasT_one ht hv with h' | ⟨e, h'⟩
      · have := (tk_one h').1; omega
      · have := (tk_sl h').2.1; omega
    · obtain ⟨⟨n, r, hn⟩, _⟩ := hasT_agg ht hv
      obtain ⟨⟨l, hl', _⟩, _⟩ := tk_agg hn
      exact comps_szpos hl'
  obtain ⟨h1, h2, h3⟩ := newBlk_ok (k := k) (e := t) (vs := [v]) (css := [cells.toList]) (cur := cells) (cap := 1) hI rfl (Below.refl _ _) hpos (by simpa using hl) (rels_one hc)
    (by simpa using hl) (by simp) (by simp [maxLen]) (by simp; rw [List.take_of_length_le (by simpa using Nat.le_of_eq hl)])
  refine ⟨_, h1, h2, h3, ?_⟩
  refine .inr (.inr ⟨rfl, ⟨w.heap.size, 0, none⟩, rfl, by simp [newBlk, upd_same], fun _ _ => ⟨by simpa [newBlk, upd_same] using hpos, w.heap.size, 1, 0, by simp [updS_same], rfl, by simp⟩⟩)

/-! ### writing a row -/
/-- A row with other contents, at the same place: what is written, the version kept or raised. -/
theorem setRow_ok {k : Key} {vs' : List V} {css' : List (List Value)} {cur' : Array Value} {b cap v' : Nat} (hI : Inv P B0 S σ st w) (hpos : 0 < szOf P (st k).e) (hlive : (st k).live = true) (hσ : σ k = some (b, cap)) (hv : (st k).ver ≤ v')
    (hrel : RelC.rels P S σ st w vs' css') (hcss : ∀ c ∈ css', c.length = szOf P (st k).e) (hsz : cur'.size = cap * szOf P (st k).e) (hle : vs'.length ≤ cap)
    (htake : cur'.toList.take (vs'.length * szOf P (st k).e) = css'.flatten) :
    Inv P B0 S σ (upd st k ⟨v', (st k).e, vs', true⟩) (w.setRow b cur') ∧ Evo S σ st w S σ (upd st k ⟨v', (st k).e, vs', true⟩) (w.setRow b cur') ∧ Below B0 w (w.setRow b cur') := by
  obtain ⟨_, hsome⟩ := (hI.own k hlive).row hpos
  obtain ⟨g1, g2, g3, cur, css, g4, g5, g6, g7, g8, g9, g10⟩ := hsome b cap hσ
  have hE : Evo S σ st w S σ (upd st k ⟨v', (st k).e, vs', true⟩) (w.setRow b cur') := by
    refine ⟨by simp [World.setRow], fun _ h => .inl h, fun _ h => h, fun b' hb => setRow_other w b b' cur' (fun h => g3 (h ▸ hb)), fun k' => ?_, fun k' hv' hl => ?_⟩
    · by_cases hk : k' = k
      · subst hk; simpa [upd_same] using hv
      · simp [upd_other _ _ _ hk]
    · by_cases hk : k' = k
      · subst hk; exact ⟨hlive, rfl, by simp [upd_same]⟩
      · rw [upd_other _ _ _ hk] at hl ⊢
        exact ⟨hl, rfl, rfl⟩
  have hsize : (w.setRow b cur').heap.size = w.heap.size := by simp [World.setRow]
  refine ⟨⟨by rw [hsize]; exact hI.base, fun b' hb' => by rw [hsize]; exact hI.safe b' hb', ?_, ?_⟩, hE, ?_⟩
  · intro k' hl
    by_cases hk : k' = k
    · subst hk
      refine ⟨fun h => (by rw [hσ] at h; cases h), fun b' c' h => ?_⟩
      rw [hσ] at h; cases h
      refine ⟨g1, by rw [hsize]; exact g2, g3, _, setRow_heap w b cur cur' _ _ g4, ?_⟩
      simp only [upd_same]
      exact .inl ⟨hpos, cur', css', rfl, hsz, hle, g7, htake, hcss, RelC.monos hE vs' css' hrel⟩
    · rw [upd_other _ _ _ hk] at hl
      obtain ⟨h2, h3⟩ := hI.own k' hl
      refine ⟨fun h => by rw [upd_other _ _ _ hk]; exact h2 h, fun b' c' h => ?_⟩
      obtain ⟨f1, f2, f3, o, f4, f5⟩ := h3 b' c' h
      have hne : b' ≠ b := hI.inj k' k hl hlive hk b' c' b cap h hσ
      refine ⟨f1, by rw [hsize]; exact f2, f3, o, (setRow_other w b b' cur' hne).trans f4, ?_⟩
      rw [upd_other _ _ _ hk]
      exact Holds.mono hE f5
  · intro k1 k2 l1 l2 hne
    refine hI.inj k1 k2 ?_ ?_ hne
    · by_cases hk : k1 = k
      · subst hk; exact hlive
      · rw [upd_other _ _ _ hk] at l1; exact l1
    · by_cases hk : k2 = k
      · subst hk; exact hlive
      · rw [upd_other _ _ _ hk] at l2; exact l2
  · exact ⟨rfl, rfl, rfl, by rw [hsize]; exact Nat.le_refl _, fun i hi => setRow_other w b i cur' (by omega)⟩

/-- A new map. -/
theorem newMap_ok {k : Key} {e : TypeId} (hI : Inv P B0 S σ st w) (hz : szOf P e = 0) :
    Inv P B0 S (updS σ k (some (w.heap.size, 0))) (newBlk st k e []) (w.alloc (.map #[] 0)) ∧ Evo S σ st w S (updS σ k (some (w.heap.size, 0))) (newBlk st k e []) (w.alloc (.map #[] 0)) ∧
    Below B0 w (w.alloc (.map #[] 0)) := by
  have hold : ∀ b, b < w.heap.size → (w.alloc (.map #[] 0)).heap[b]? = w.heap[b]? := fun b hb => heap_alloc_old w _ hb
  have hE : Evo S σ st w S (updS σ k (some (w.heap.size, 0))) (newBlk st k e []) (w.alloc (.map #[] 0)) := by
    refine ⟨by rw [alloc_size]; omega, fun _ h => .inl h, fun _ h => h, fun b hb => hold b (hI.safe b hb), fun k' => ?_, fun k' hv hl => ?_⟩
    · by_cases hk : k' = k
      · subst hk; simp [newBlk, upd_same]
      · simp [newBlk, upd_other _ _ _ hk]
    · by_cases hk : k' = k
      · subst hk; simp [newBlk, upd_same] at hv
      · rw [newBlk, upd_other _ _ _ hk] at hv hl
        rw [newBlk, upd_other _ _ _ hk]
        exact ⟨hl, updS_other _ _ _ hk, rfl⟩
  refine ⟨⟨?_, ?_, ?_, ?_⟩, hE, Below.alloc (Below.refl _ _) hI.base _⟩
  · have := hI.base; rw [alloc_size]; omega
  · intro b hb; have := hI.safe b hb; rw [alloc_size]; omega
  · intro k' hl
    by_cases hk : k' = k
    · subst hk
      refine ⟨fun h => by simp [updS_same] at h, fun b c h => ?_⟩
      simp [updS_same] at h
      obtain ⟨rfl, rfl⟩ := h
      refine ⟨hI.base, by rw [alloc_size]; omega, fun hs => ?_, _, heap_alloc_new w _, ?_⟩
      · have := hI.safe _ hs; omega
      · simp only [newBlk, upd_same]
        exact .inr ⟨hz, #[], 0, rfl, rfl⟩
    · rw [newBlk, upd_other _ _ _ hk] at hl
      obtain ⟨h2, h3⟩ := hI.own k' hl
      refine ⟨fun h => ?_, fun b c h => ?_⟩
      · rw [newBlk, upd_other _ _ _ hk]; rw [updS_other _ _ _ hk] at h; exact h2 h
      · rw [updS_other _ _ _ hk] at h
        obtain ⟨g1, g2, g3, o, g4, g5⟩ := h3 b c h
        refine ⟨g1, by rw [alloc_size]; omega, g3, o, (hold b g2).trans g4, ?_⟩
        rw [newBlk, upd_other _ _ _ hk]
        exact Holds.mono hE g5
  · intro k1 k2 l1 l2 hne b c b' c' e1 e2
    have hlt : ∀ k' b c, (st k').live = true → σ k' = some (b, c) → b < w.heap.size := fun k' b c hl h => ((hI.own k' hl).some b c h).2.1
    by_cases hk1 : k1 = k
    · subst hk1
      have hk2 : k2 ≠ k1 := fun h => hne h.symm
      rw [updS_same] at e1; rw [updS_other _ _ _ hk2] at e2
      rw [newBlk, upd_other _ _ _ hk2] at l2
      have := hlt k2 b' c' l2 e2
      simp at e1; omega
    · rw [updS_other _ _ _ hk1] at e1
      rw [newBlk, upd_other _ _ _ hk1] at l1
      by_cases hk2 : k2 = k
      · subst hk2
        rw [updS_same] at e2
        have := hlt k1 b c l1 e1
        simp at e2; omega
      · rw [updS_other _ _ _ hk2] at e2
        rw [newBlk, upd_other _ _ _ hk2] at l2
        exact hI.inj k1 k2 l1 l2 hne b c b' c' e1 e2

/-- A map with other entries, at the same place. -/
theorem setMap_ok {k : Key} {vs' : List V} {es' : Array MapEntry} {b cap clock' : Nat} (hI : Inv P B0 S σ st w) (h0 : szOf P (st k).e = 0) (hlive : (st k).live = true) (hσ : σ k = some (b, cap))
    (hrel : MapRel P S σ st w vs' es'.toList) :
    Inv P B0 S σ (upd st k ⟨(st k).ver, (st k).e, vs', true⟩) ({ w with heap := w.heap.setIfInBounds b (.map es' clock') } : World) ∧ Evo S σ st w S σ (upd st k ⟨(st k).ver, (st k).e, vs', true⟩) ({ w with heap := w.heap.setIfInBounds b (.map es' clock') } : World) ∧
    Below B0 w ({ w with heap := w.heap.setIfInBounds b (.map es' clock') } : World) := by
  obtain ⟨g1, g2, g3, o0, g4, g5⟩ := (hI.own k hlive).some b cap hσ
  have hother : ∀ r', r' ≠ b → (w.heap.setIfInBounds b (.map es' clock'))[r']? = w.heap[r']? := (MapKept.heap_set g4).2
  have hE : Evo S σ st w S σ (upd st k ⟨(st k).ver, (st k).e, vs', true⟩) ({ w with heap := w.heap.setIfInBounds b (.map es' clock') } : World) := by
    refine ⟨by simp, fun _ h => .inl h, fun _ h => h, fun b' hb => hother b' (fun h => g3 (h ▸ hb)), fun k' => ?_, fun k' hv' hl => ?_⟩
    · by_cases hk : k' = k
      · subst hk; simp [upd_same]
      · simp [upd_other _ _ _ hk]
    · by_cases hk : k' = k
      · subst hk; exact ⟨hlive, rfl, by simp [upd_same]⟩
      · rw [upd_other _ _ _ hk] at hl ⊢
        exact ⟨hl, rfl, rfl⟩
  have hsize : ({ w with heap := w.heap.setIfInBounds b (.map es' clock') } : World).heap.size = w.heap.size := by simp
  refine ⟨⟨by rw [hsize]; exact hI.base, fun b' hb' => by rw [hsize]; exact hI.safe b' hb', ?_, ?_⟩, hE, ?_⟩
  · intro k' hl
    by_cases hk : k' = k
    · subst hk
      refine ⟨fun h => (by rw [hσ] at h; cases h), fun b' c' h => ?_⟩
      rw [hσ] at h; cases h
      refine ⟨g1, by rw [hsize]; exact g2, g3, _, (MapKept.heap_set g4).1, ?_⟩
      simp only [upd_same]
      exact .inr ⟨h0, es', clock', rfl, MapRel.mono hE hrel⟩
    · rw [upd_other _ _ _ hk] at hl
      obtain ⟨h2, h3⟩ := hI.own k' hl
      refine ⟨fun h => by rw [upd_other _ _ _ hk]; exact h2 h, fun b' c' h => ?_⟩
      obtain ⟨f1, f2, f3, o, f4, f5⟩ := h3 b' c' h
      have hne : b' ≠ b := hI.inj k' k hl hlive hk b' c' b cap h hσ
      refine ⟨f1, by rw [hsize]; exact f2, f3, o, (hother b' hne).trans f4, ?_⟩
      rw [upd_other _ _ _ hk]
      exact Holds.mono hE f5
  · intro k1 k2 l1 l2 hne
    refine hI.inj k1 k2 ?_ ?_ hne
    · by_cases hk : k1 = k
      · subst hk; exact hlive
      · rw [upd_other _ _ _ hk] at l1; exact l1
    · by_cases hk : k2 = k
      · subst hk; exact hlive
      · rw [upd_other _ _ _ hk] at l2; exact l2
  · exact ⟨rfl, rfl, rfl, by rw [hsize]; exact Nat.le_refl _, fun i hi => hother i (by omega)⟩

/-! ### an element of a row -/
theorem elem_cells {k : Key} {b cap i : Nat} {v : V} (hI : Inv P B0 S σ st w) (hpos : 0 < szOf P (st k).e) (hlive : (st k).live = true) (hσ : σ k = some (b, cap)) (hi : (st k).vs[i]? = some v) :
    ∃ (cur : Array Value) (css : List (List Value)) (c : List Value), w.heap[b]? = some (.cells cur (st k).e (0, 0)) ∧ css[i]? = some c ∧ RelC P S σ st w v c ∧ c.length = szOf P (st k).e ∧
      i * szOf P (st k).e + c.length ≤ css.flatten.length ∧ (∀ j, j < c.length → css.flatten[i * szOf P (st k).e + j]? = c[j]?) ∧ cur.toList.take ((st k).vs.length * szOf P (st k).e) = css.flatten ∧
      css.flatten.length ≤ cur.size ∧ css.flatten.length = (st k).vs.length * szOf P (st k).e ∧ (∀ c ∈ css, c.length = szOf P (st k).e) ∧ RelC.rels P S σ st w (st k).vs css ∧ cur.size = cap * szOf P (st k).e ∧ css.length = (st k).vs.length := by
  obtain ⟨_, hsome⟩ := (hI.own k hlive).row hpos
  obtain ⟨g1, g2, g3, cur, css, g4, g5, g6, g7, g8, g9, g10⟩ := hsome b cap hσ
  obtain ⟨c, hc, hrc⟩ := rels_at g10 hi
  have hcl := g9 c (List.mem_of_getElem? hc)
  have hlen := rels_length g10
  have hilt : i < css.length := (List.getElem?_eq_some_iff.1 hc).1
  obtain ⟨f1, f2⟩ := flatten_at hc
  rw [take_sum_const g9 (by omega)] at f1 f2
  have hfl : css.flatten.length = (st k).vs.length * szOf P (st k).e := by rw [length_flatten_eq g9, hlen]
  refine ⟨cur, css, c, g4, hc, hrc, hcl, f1, f2, g8, ?_, hfl, g9, g10, g5, hlen⟩
  rw [hfl, g5]
  exact Nat.mul_le_mul_right _ g6

theorem cell_of_take {cur : Array Value} {F : List Value} {N j : Nat} (h : cur.toList.take N = F) (hj : j < F.length) : cur[j]? = F[j]? := by
  have hN : j < N := by rw [← h] at hj; simp at hj; omega
  rw [← h, List.getElem?_take_of_lt hN]; simp

/-- Reading through a pointer into a row. -/
theorem load_ok {k : Key} {i : Nat} {path : List (TypeId × Nat)} {v x : V} {t : TypeId} {A : Addr} (hI : Inv P B0 S σ st w) (hlive : (st k).live = true) (hi : (st k).vs[i]? = some v) (hp : getPath v path = some x)
    (ht : hasT P t x = true) (hA : 0 < szOf P (st k).e ∧ ∃ b cap off, σ k = some (b, cap) ∧ pathOff P path = some off ∧ A = ⟨b, i * szOf P (st k).e + off, none⟩) :
    ∃ val, (loadVar t A).run P w = .ok val w ∧ RelV P S σ st w x val := by
  obtain ⟨hpos0, b, cap, off, hσ, hoff, rfl⟩ := hA
  obtain ⟨cur, css, c, h1, h2, h3, h4, h5, h6, h7, h8, h9, _⟩ := elem_cells hI hpos0 hlive hσ hi
  obtain ⟨off', cx, p1, p2, p3, p4⟩ := getPath_cells path v x c h3 hp
  rw [hoff] at p1; cases p1
  refine ⟨_, run_loadVar ht p2 ?_, (valOf_rel p2).v p2.not_tup⟩
  intro j u hj
  have hjl := (List.getElem?_eq_some_iff.1 hj).1
  rw [add_none, cell_of_row w b _ cur _ _ h1]
  have e1 : i * szOf P (st k).e + off + j = i * szOf P (st k).e + (off + j) := by omega
  rw [e1, cell_of_take h7 (by omega), h6 (off + j) (by omega), p4 j hjl, hj]

/-- Writing through a pointer into a row. -/
theorem store_ok {k : Key} {i : Nat} {path : List (TypeId × Nat)} {v old x v' : V} {val : Value} {t : TypeId} {A : Addr} (hI : Inv P B0 S σ st w) (hlive : (st k).live = true) (hi : (st k).vs[i]? = some v)
    (hp : getPath v path = some old) (hto : hasT P t old = true) (ht : hasT P t x = true) (hr : RelV P S σ st w x val) (hs : setPath v path x = some v')
    (hA : 0 < szOf P (st k).e ∧ ∃ b cap off, σ k = some (b, cap) ∧ pathOff P path = some off ∧ A = ⟨b, i * szOf P (st k).e + off, none⟩) :
    ∃ w', (storeVar t A val).run P w = .ok () w' ∧ Inv P B0 S σ (upd st k ⟨(st k).ver, (st k).e, setN (st k).vs i v', true⟩) w' ∧
      Evo S σ st w S σ (upd st k ⟨(st k).ver, (st k).e, setN (st k).vs i v', true⟩) w' ∧ Below B0 w w' := by
  obtain ⟨hpos0, b, cap, off, hσ, hoff, rfl⟩ := hA
  obtain ⟨cur, css, c, h1, h2, h3, h4, h5, h6, h7, h8, h9, h10, h11, h12, h13⟩ := elem_cells hI hpos0 hlive hσ hi
  obtain ⟨hc, _⟩ := (hr.n (hasT_tup ht)).cells (hasT_und ht)
  obtain ⟨off', cold, p1, p2, p3, p4⟩ := getPath_cells path v old c h3 hp
  have hl1 := hasT_length hto p2
  have hl2 := hasT_length ht hc
  obtain ⟨off2, q1, q2, q3⟩ := setPath_cells path v old x v' c cold val.cells.toList h3 hp p2 hc (by omega) hs
  rw [hoff] at q1; cases q1
  have hpos : i * szOf P (st k).e + off + val.cells.toList.length ≤ cur.size := by omega
  have hst := run_storeCells_at P b (i * szOf P (st k).e + off) (st k).e val.cells.toList 0 cur w h1 (by simpa using hpos) (RelC.one _ _ hc)
  simp only [Nat.add_zero] at hst
  have hcl : (c.take off ++ val.cells.toList ++ c.drop (off + val.cells.toList.length)).length = c.length := by simp; simp at q2; omega
  have hil : i < css.length := (List.getElem?_eq_some_iff.1 h2).1
  have hfs := flatten_set h2 hcl
  rw [take_sum_const h10 (by omega)] at hfs
  have hsp := splice_in (A := i * szOf P (st k).e) h5 h6 q2
  have hset : RelC.rels P S σ st w (setN (st k).vs i v') (css.set i (c.take off ++ val.cells.toList ++ c.drop (off + val.cells.toList.length))) := by
    rw [setN_eq]; exact rels_set h11 q3
  have hvl : (setN (st k).vs i v').length = (st k).vs.length := by rw [setN_eq]; simp
  obtain ⟨r1, r2, r3⟩ := setRow_ok (k := k) (v' := (st k).ver) (vs' := setN (st k).vs i v') hI hpos0 hlive hσ (Nat.le_refl _) hset
    (by
      intro c' hc'
      rcases List.mem_or_eq_of_mem_set hc' with h | h
      · exact h10 c' h
      · rw [h, hcl, h4])
    (cur' := (cur.toList.take (i * szOf P (st k).e + off) ++ val.cells.toList ++ cur.toList.drop (i * szOf P (st k).e + off + val.cells.toList.length)).toArray)
    (by
      rw [← h12]
      simp only [List.size_toArray, List.length_append, List.length_take, List.length_drop, Array.length_toList]
      simp at hpos ⊢
      omega)
    (by
      rw [hvl]
      obtain ⟨_, hsome⟩ := (hI.own k hlive).row hpos0
      obtain ⟨_, _, _, cur2, css2, _, _, g6, _⟩ := hsome b cap hσ
      exact g6)
    (by
      rw [hvl]
      rw [hfs, ← hsp, ← h7]
      refine splice_take ?_ ?_
      · omega
      · rw [Array.length_toList]; omega)
  refine ⟨_, ?_, r1, r2, r3⟩
  unfold storeVar
  simp only [Sem.run_bind, run_sizeOf (hasT_bad ht), Result.andThen_ok]
  have hcs : val.cells.size = szOf P t := by simpa using hl2
  simp only [hcs, ne_eq, not_true_eq_false, if_false]
  simpa using hst
end
end Go.Ev
