/- Parts of one proof, joined: EvD, EvE, EvF, EvG, EvH. -/
import Derived.Test.YtmhjmjodchbhlaaRMSkyChecks1
import Derived.MapKept
import Derived.Laws.StructEq
section
set_option linter.unusedVariables false
set_option linter.unusedSimpArgs false
set_option linter.unusedSectionVars false
namespace Go.Ev
open Go.RowKit

theorem keq_iff {k k' : Key} : keq k k' = true ↔ k = k' := by
  obtain ⟨a, b⟩ := k
  obtain ⟨c, d⟩ := k'
  simp [keq]
theorem upd_same (st : Store) (k : Key) (b : Blk) : upd st k b k = b := by simp [upd, keq_iff.2 rfl]
theorem upd_other (st : Store) (k : Key) (b : Blk) {k' : Key} (h : k' ≠ k) : upd st k b k' = st k' := by
  have : keq k' k = false := by
    cases hq : keq k' k
    · rfl
    · exact absurd (keq_iff.1 hq) h
  simp [upd, this]
def updS (σ : Sig) (k : Key) (x : Option (Nat × Nat)) : Sig := fun k' => if k' = k then x else σ k'
theorem updS_same (σ : Sig) (k : Key) (x : Option (Nat × Nat)) : updS σ k x k = x := by simp [updS]
theorem updS_other (σ : Sig) (k : Key) (x : Option (Nat × Nat)) {k' : Key} (h : k' ≠ k) : updS σ k x k' = σ k' := by simp [updS, h]

/-- An operation's run answers as the evaluator does. -/
def OpOk (P : Program) (B0 : Nat) (S : Nat → Prop) (σ : Sig) (st : Store) (w : World) (r : Result Next) (v : V) (st' : Store) : Prop :=
  ∃ (val : Value) (nx : Next) (w' : World) (S' : Nat → Prop) (σ' : Sig), r = .ok nx w' ∧ (nx = .value val ∨ (nx = .skip ∧ val = undef)) ∧ Inv P B0 S' σ' st' w' ∧ Evo S σ st w S' σ' st' w' ∧
    Below B0 w w' ∧ RelV P S' σ' st' w' v val

section
variable {P : Program} {B0 : Nat} {S : Nat → Prop} {σ : Sig} {st : Store} {w : World}

theorem OpOk.same {r : Result Next} {v : V} {val : Value} (hI : Inv P B0 S σ st w) (hr : r = .ok (.value val) w) (h : RelV P S σ st w v val) : OpOk P B0 S σ st w r v st :=
  ⟨val, _, w, S, σ, hr, .inl rfl, hI, Evo.refl .., Below.refl _ _, h⟩

theorem splice_take {L cx : List Value} {p N : Nat} (h1 : p + cx.length ≤ N) (h2 : N ≤ L.length) :
    (L.take p ++ cx ++ L.drop (p + cx.length)).take N = (L.take N).take p ++ cx ++ (L.take N).drop (p + cx.length) := by
  have hF : (L.take N).length = N := by simp; omega
  have e1 : L.take p = (L.take N).take p := by rw [List.take_take, Nat.min_eq_left (by omega)]
  have e2 : L.drop (p + cx.length) = (L.take N).drop (p + cx.length) ++ L.drop N := by
    conv => lhs; rw [← List.take_append_drop N L]
    rw [List.drop_append, hF, show p + cx.length - N = 0 by omega]; simp
  rw [e1, e2, ← List.append_assoc]
  have hl : ((L.take N).take p ++ cx ++ (L.take N).drop (p + cx.length)).length = N := by
    simp only [List.length_append, List.length_drop, hF]
    rw [List.length_take, hF]; omega
  conv => lhs; rw [← hl]
  rw [hl]
  exact List.take_left' hl

theorem alloc_size (w : World) (o : Obj) : (w.alloc o).heap.size = w.heap.size + 1 := by show (w.heap.push o).size = _; simp
theorem take_sum_const {css : List (List Value)} {s i : Nat} (h : ∀ c ∈ css, c.length = s) (hi : i ≤ css.length) : ((css.map List.length).take i).sum = i * s := by
  induction css generalizing i with
  | nil => simp at hi; subst hi; simp
  | cons c r ih =>
    cases i with
    | zero => simp
    | succ i =>
      simp only [List.map_cons, List.take_succ_cons, List.sum_cons]
      rw [ih (fun c' hc' => h c' (by simp [hc'])) (by simpa using hi), h c (by simp), Nat.succ_mul]; omega

/-! ### a new row -/
theorem newBlk_ok {k : Key} {e : TypeId} {vs : List V} {css : List (List Value)} {cur : Array Value} {cap : Nat} {w0 : World} (hI : Inv P B0 S σ st w0) (hw : w0.heap = w.heap) (hb : Below B0 w0 w)
    (hpos : 0 < szOf P e) (hcss : ∀ c ∈ css, c.length = szOf P e) (hrel : RelC.rels P S σ st w vs css)
    (hsz : cur.size = cap * szOf P e) (hle : vs.length ≤ cap) (hcap : cap ≤ maxLen) (htake : cur.toList.take (vs.length * szOf P e) = css.flatten) :
    Inv P B0 S (updS σ k (some (w.heap.size, cap))) (newBlk st k e vs) (w.alloc (.cells cur e)) ∧ Evo S σ st w S (updS σ k (some (w.heap.size, cap))) (newBlk st k e vs) (w.alloc (.cells cur e)) ∧
    Below B0 w0 (w.alloc (.cells cur e)) := by
  have hold : ∀ b, b < w.heap.size → (w.alloc (.cells cur e)).heap[b]? = w.heap[b]? := fun b hb => heap_alloc_old w _ hb
  have hE : Evo S σ st w S (updS σ k (some (w.heap.size, cap))) (newBlk st k e vs) (w.alloc (.cells cur e)) := by
    refine ⟨by rw [alloc_size]; omega, fun _ h => .inl h, fun _ h => h, fun b hb => hold b (hw ▸ hI.safe b hb), fun k' => ?_, fun k' hv hl => ?_⟩
    · by_cases hk : k' = k
      · subst hk; simp [newBlk, upd_same]
      · simp [newBlk, upd_other _ _ _ hk]
    · by_cases hk : k' = k
      · subst hk; simp [newBlk, upd_same] at hv
      · rw [newBlk, upd_other _ _ _ hk] at hv hl
        rw [newBlk, upd_other _ _ _ hk]
        exact ⟨hl, updS_other _ _ _ hk, rfl⟩
  refine ⟨⟨?_, ?_, ?_, ?_⟩, hE, hb.trans (Below.alloc (Below.refl _ _) (hw ▸ hI.base) _)⟩
  · have := hI.base; rw [alloc_size, ← hw]; omega
  · intro b hb; have := hI.safe b hb; rw [alloc_size, ← hw]; omega
  · intro k' hl
    by_cases hk : k' = k
    · subst hk
      refine ⟨fun h => by simp [updS_same] at h, fun b c h => ?_⟩
      simp [updS_same] at h
      obtain ⟨rfl, rfl⟩ := h
      refine ⟨hw ▸ hI.base, by rw [alloc_size]; omega, fun hs => ?_, _, heap_alloc_new w _, ?_⟩
      · have := hI.safe _ hs; rw [hw] at this; omega
      · simp only [newBlk, upd_same]
        exact .inl ⟨hpos, cur, css, rfl, hsz, hle, hcap, htake, hcss, RelC.monos hE vs css hrel⟩
    · rw [newBlk, upd_other _ _ _ hk] at hl
      obtain ⟨h2, h3⟩ := hI.own k' hl
      refine ⟨fun h => ?_, fun b c h => ?_⟩
      · rw [newBlk, upd_other _ _ _ hk]; rw [updS_other _ _ _ hk] at h; exact h2 h
      · rw [updS_other _ _ _ hk] at h
        obtain ⟨g1, g2, g3, o, g4, g5⟩ := h3 b c h
        rw [hw] at g2 g4
        refine ⟨g1, by rw [alloc_size]; omega, g3, o, (hold b g2).trans g4, ?_⟩
        rw [newBlk, upd_other _ _ _ hk]
        have hE0 : Evo S σ st w0 S σ st w := ⟨by rw [hw]; exact Nat.le_refl _, fun _ h => .inl h, fun _ h => h, fun b _ => by rw [hw], fun _ => Nat.le_refl _, fun _ _ h => ⟨h, rfl, rfl⟩⟩
        exact Holds.mono (hE0.trans hE) g5
  · intro k1 k2 l1 l2 hne b c b' c' e1 e2
    have hlt : ∀ k' b c, (st k').live = true → σ k' = some (b, c) → b < w.heap.size := fun k' b c hl h => hw ▸ ((hI.own k' hl).some b c h).2.1
    by_cases hk1 : k1 = k
    · subst hk1
      have hk2 : k2 ≠ k1 := fun h => hne h.symm
      rw [updS_same] at e1; rw [updS_other _ _ _ hk2] at e2
      rw [newBlk, upd_other _ _ _ hk2] at l2
      have := hlt k2 b' c' l2 e2
      simp at e1; omega
    · rw [updS_other _ _ _ hk1] at e1
      rw [newBlk, upd_other _ _ _ hk1] at l1
      by_cases hk2 : k2 = k
      · subst hk2
        rw [updS_same] at e2
        have := hlt k1 b c l1 e1
        simp at e2; omega
      · rw [updS_other _ _ _ hk2] at e2
        rw [newBlk, upd_other _ _ _ hk2] at l2
        exact hI.inj k1 k2 l1 l2 hne b c b' c' e1 e2

theorem rels_one {v : V} {c : List Value} (h : RelC P S σ st w v c) : RelC.rels P S σ st w [v] [c] := ⟨c, [], rfl, h, rfl⟩

/-- A new variable. -/
theorem newVar_ok {k : Key} {t : TypeId} {v : V} {cells : Array Value} (hI : Inv P B0 S σ st w) (ht : hasT P t v = true) (hc : RelC P S σ st w v cells.toList) :
    ∃ σ', Inv P B0 S σ' (newBlk st k t [v]) (w.alloc (.cells cells t)) ∧ Evo S σ st w S σ' (newBlk st k t [v]) (w.alloc (.cells cells t)) ∧ Below B0 w (w.alloc (.cells cells t)) ∧
      RelV P S σ' (newBlk st k t [v]) (w.alloc (.cells cells t)) (.p k ((st k).ver + 1) 0 []) (.pointer (some ⟨w.heap.size, 0, none⟩)) := by
  have hl := hasT_length ht hc
  have hpos : 0 < szOf P t := by
    cases hv : v.isAgg
    · rcases hasT_one ht hv with h' | ⟨e, h'⟩
      · have := (tk_one h').1; omega
      · have := (tk_sl h').2.1; omega
    · obtain ⟨⟨n, r, hn⟩, _⟩ := hasT_agg ht hv
      obtain ⟨⟨l, hl', _⟩, _⟩ := tk_agg hn
      exact comps_szpos hl'
  obtain ⟨h1, h2, h3⟩ := newBlk_ok (k := k) (e := t) (vs := [v]) (css := [cells.toList]) (cur := cells) (cap := 1) hI rfl (Below.refl _ _) hpos (by simpa using hl) (rels_one hc)
    (by simpa using hl) (by simp) (by simp [maxLen]) (by simp; rw [List.take_of_length_le (by simpa using Nat.le_of_eq hl)])
  refine ⟨_, h1, h2, h3, ?_⟩
  refine .inr (.inr ⟨rfl, ⟨w.heap.size, 0, none⟩, rfl, by simp [newBlk, upd_same], fun _ _ => ⟨by simpa [newBlk, upd_same] using hpos, w.heap.size, 1, 0, by simp [updS_same], rfl, by simp⟩⟩)

/-! ### writing a row -/
/-- A row with other contents, at the same place: what is written, the version kept or raised. -/
theorem setRow_ok {k : Key} {vs' : List V} {css' : List (List Value)} {cur' : Array Value} {b cap v' : Nat} (hI : Inv P B0 S σ st w) (hpos : 0 < szOf P (st k).e) (hlive : (st k).live = true) (hσ : σ k = some (b, cap)) (hv : (st k).ver ≤ v')
    (hrel : RelC.rels P S σ st w vs' css') (hcss : ∀ c ∈ css', c.length = szOf P (st k).e) (hsz : cur'.size = cap * szOf P (st k).e) (hle : vs'.length ≤ cap)
    (htake : cur'.toList.take (vs'.length * szOf P (st k).e) = css'.flatten) :
    Inv P B0 S σ (upd st k ⟨v', (st k).e, vs', true⟩) (w.setRow b cur') ∧ Evo S σ st w S σ (upd st k ⟨v', (st k).e, vs', true⟩) (w.setRow b cur') ∧ Below B0 w (w.setRow b cur') := by
  obtain ⟨_, hsome⟩ := (hI.own k hlive).row hpos
  obtain ⟨g1, g2, g3, cur, css, g4, g5, g6, g7, g8, g9, g10⟩ := hsome b cap hσ
  have hE : Evo S σ st w S σ (upd st k ⟨v', (st k).e, vs', true⟩) (w.setRow b cur') := by
    refine ⟨by simp [World.setRow], fun _ h => .inl h, fun _ h => h, fun b' hb => setRow_other w b b' cur' (fun h => g3 (h ▸ hb)), fun k' => ?_, fun k' hv' hl => ?_⟩
    · by_cases hk : k' = k
      · subst hk; simpa [upd_same] using hv
      · simp [upd_other _ _ _ hk]
    · by_cases hk : k' = k
      · subst hk; exact ⟨hlive, rfl, by simp [upd_same]⟩
      · rw [upd_other _ _ _ hk] at hl ⊢
        exact ⟨hl, rfl, rfl⟩
  have hsize : (w.setRow b cur').heap.size = w.heap.size := by simp [World.setRow]
  refine ⟨⟨by rw [hsize]; exact hI.base, fun b' hb' => by rw [hsize]; exact hI.safe b' hb', ?_, ?_⟩, hE, ?_⟩
  · intro k' hl
    by_cases hk : k' = k
    · subst hk
      refine ⟨fun h => (by rw [hσ] at h; cases h), fun b' c' h => ?_⟩
      rw [hσ] at h; cases h
      refine ⟨g1, by rw [hsize]; exact g2, g3, _, setRow_heap w b cur cur' _ _ g4, ?_⟩
      simp only [upd_same]
      exact .inl ⟨hpos, cur', css', rfl, hsz, hle, g7, htake, hcss, RelC.monos hE vs' css' hrel⟩
    · rw [upd_other _ _ _ hk] at hl
      obtain ⟨h2, h3⟩ := hI.own k' hl
      refine ⟨fun h => by rw [upd_other _ _ _ hk]; exact h2 h, fun b' c' h => ?_⟩
      obtain ⟨f1, f2, f3, o, f4, f5⟩ := h3 b' c' h
      have hne : b' ≠ b := hI.inj k' k hl hlive hk b' c' b cap h hσ
      refine ⟨f1, by rw [hsize]; exact f2, f3, o, (setRow_other w b b' cur' hne).trans f4, ?_⟩
      rw [upd_other _ _ _ hk]
      exact Holds.mono hE f5
  · intro k1 k2 l1 l2 hne
    refine hI.inj k1 k2 ?_ ?_ hne
    · by_cases hk : k1 = k
      · subst hk; exact hlive
      · rw [upd_other _ _ _ hk] at l1; exact l1
    · by_cases hk : k2 = k
      · subst hk; exact hlive
      · rw [upd_other _ _ _ hk] at l2; exact l2
  · exact ⟨rfl, rfl, rfl, by rw [hsize]; exact Nat.le_refl _, fun i hi => setRow_other w b i cur' (by omega)⟩

/-- A new map. -/
theorem newMap_ok {k : Key} {e : TypeId} (hI : Inv P B0 S σ st w) (hz : szOf P e = 0) :
    Inv P B0 S (updS σ k (some (w.heap.size, 0))) (newBlk st k e []) (w.alloc (.map #[] 0)) ∧ Evo S σ st w S (updS σ k (some (w.heap.size, 0))) (newBlk st k e []) (w.alloc (.map #[] 0)) ∧
    Below B0 w (w.alloc (.map #[] 0)) := by
  have hold : ∀ b, b < w.heap.size → (w.alloc (.map #[] 0)).heap[b]? = w.heap[b]? := fun b hb => heap_alloc_old w _ hb
  have hE : Evo S σ st w S (updS σ k (some (w.heap.size, 0))) (newBlk st k e []) (w.alloc (.map #[] 0)) := by
    refine ⟨by rw [alloc_size]; omega, fun _ h => .inl h, fun _ h => h, fun b hb => hold b (hI.safe b hb), fun k' => ?_, fun k' hv hl => ?_⟩
    · by_cases hk : k' = k
      · subst hk; simp [newBlk, upd_same]
      · simp [newBlk, upd_other _ _ _ hk]
    · by_cases hk : k' = k
      · subst hk; simp [newBlk, upd_same] at hv
      · rw [newBlk, upd_other _ _ _ hk] at hv hl
        rw [newBlk, upd_other _ _ _ hk]
        exact ⟨hl, updS_other _ _ _ hk, rfl⟩
  refine ⟨⟨?_, ?_, ?_, ?_⟩, hE, Below.alloc (Below.refl _ _) hI.base _⟩
  · have := hI.base; rw [alloc_size]; omega
  · intro b hb; have := hI.safe b hb; rw [alloc_size]; omega
  · intro k' hl
    by_cases hk : k' = k
    · subst hk
      refine ⟨fun h => by simp [updS_same] at h, fun b c h => ?_⟩
      simp [updS_same] at h
      obtain ⟨rfl, rfl⟩ := h
      refine ⟨hI.base, by rw [alloc_size]; omega, fun hs => ?_, _, heap_alloc_new w _, ?_⟩
      · have := hI.safe _ hs; omega
      · simp only [newBlk, upd_same]
        exact .inr ⟨hz, #[], 0, rfl, rfl⟩
    · rw [newBlk, upd_other _ _ _ hk] at hl
      obtain ⟨h2, h3⟩ := hI.own k' hl
      refine ⟨fun h => ?_, fun b c h => ?_⟩
      · rw [newBlk, upd_other _ _ _ hk]; rw [updS_other _ _ _ hk] at h; exact h2 h
      · rw [updS_other _ _ _ hk] at h
        obtain ⟨g1, g2, g3, o, g4, g5⟩ := h3 b c h
        refine ⟨g1, by rw [alloc_size]; omega, g3, o, (hold b g2).trans g4, ?_⟩
        rw [newBlk, upd_other _ _ _ hk]
        exact Holds.mono hE g5
  · intro k1 k2 l1 l2 hne b c b' c' e1 e2
    have hlt : ∀ k' b c, (st k').live = true → σ k' = some (b, c) → b < w.heap.size := fun k' b c hl h => ((hI.own k' hl).some b c h).2.1
    by_cases hk1 : k1 = k
    · subst hk1
      have hk2 : k2 ≠ k1 := fun h => hne h.symm
      rw [updS_same] at e1; rw [updS_other _ _ _ hk2] at e2
      rw [newBlk, upd_other _ _ _ hk2] at l2
      have := hlt k2 b' c' l2 e2
      simp at e1; omega
    · rw [updS_other _ _ _ hk1] at e1
      rw [newBlk, upd_other _ _ _ hk1] at l1
      by_cases hk2 : k2 = k
      · subst hk2
        rw [updS_same] at e2
        have := hlt k1 b c l1 e1
        simp at e2; omega
      · rw [updS_other _ _ _ hk2] at e2
        rw [newBlk, upd_other _ _ _ hk2] at l2
        exact hI.inj k1 k2 l1 l2 hne b c b' c' e1 e2

/-- A map with other entries, at the same place. -/
theorem setMap_ok {k : Key} {vs' : List V} {es' : Array MapEntry} {b cap clock' : Nat} (hI : Inv P B0 S σ st w) (h0 : szOf P (st k).e = 0) (hlive : (st k).live = true) (hσ : σ k = some (b, cap))
    (hrel : MapRel P S σ st w vs' es'.toList) :
    Inv P B0 S σ (upd st k ⟨(st k).ver, (st k).e, vs', true⟩) ({ w with heap := w.heap.setIfInBounds b (.map es' clock') } : World) ∧ Evo S σ st w S σ (upd st k ⟨(st k).ver, (st k).e, vs', true⟩) ({ w with heap := w.heap.setIfInBounds b (.map es' clock') } : World) ∧
    Below B0 w ({ w with heap := w.heap.setIfInBounds b (.map es' clock') } : World) := by
  obtain ⟨g1, g2, g3, o0, g4, g5⟩ := (hI.own k hlive).some b cap hσ
  have hother : ∀ r', r' ≠ b → (w.heap.setIfInBounds b (.map es' clock'))[r']? = w.heap[r']? := (MapKept.heap_set g4).2
  have hE : Evo S σ st w S σ (upd st k ⟨(st k).ver, (st k).e, vs', true⟩) ({ w with heap := w.heap.setIfInBounds b (.map es' clock') } : World) := by
    refine ⟨by simp, fun _ h => .inl h, fun _ h => h, fun b' hb => hother b' (fun h => g3 (h ▸ hb)), fun k' => ?_, fun k' hv' hl => ?_⟩
    · by_cases hk : k' = k
      · subst hk; simp [upd_same]
      · simp [upd_other _ _ _ hk]
    · by_cases hk : k' = k
      · subst hk; exact ⟨hlive, rfl, by simp [upd_same]⟩
      · rw [upd_other _ _ _ hk] at hl ⊢
        exact ⟨hl, rfl, rfl⟩
  have hsize : ({ w with heap := w.heap.setIfInBounds b (.map es' clock') } : World).heap.size = w.heap.size := by simp
  refine ⟨⟨by rw [hsize]; exact hI.base, fun b' hb' => by rw [hsize]; exact hI.safe b' hb', ?_, ?_⟩, hE, ?_⟩
  · intro k' hl
    by_cases hk : k' = k
    · subst hk
      refine ⟨fun h => (by rw [hσ] at h; cases h), fun b' c' h => ?_⟩
      rw [hσ] at h; cases h
      refine ⟨g1, by rw [hsize]; exact g2, g3, _, (MapKept.heap_set g4).1, ?_⟩
      simp only [upd_same]
      exact .inr ⟨h0, es', clock', rfl, MapRel.mono hE hrel⟩
    · rw [upd_other _ _ _ hk] at hl
      obtain ⟨h2, h3⟩ := hI.own k' hl
      refine ⟨fun h => by rw [upd_other _ _ _ hk]; exact h2 h, fun b' c' h => ?_⟩
      obtain ⟨f1, f2, f3, o, f4, f5⟩ := h3 b' c' h
      have hne : b' ≠ b := hI.inj k' k hl hlive hk b' c' b cap h hσ
      refine ⟨f1, by rw [hsize]; exact f2, f3, o, (hother b' hne).trans f4, ?_⟩
      rw [upd_other _ _ _ hk]
      exact Holds.mono hE f5
  · intro k1 k2 l1 l2 hne
    refine hI.inj k1 k2 ?_ ?_ hne
    · by_cases hk : k1 = k
      · subst hk; exact hlive
      · rw [upd_other _ _ _ hk] at l1; exact l1
    · by_cases hk : k2 = k
      · subst hk; exact hlive
      · rw [upd_other _ _ _ hk] at l2; exact l2
  · exact ⟨rfl, rfl, rfl, by rw [hsize]; exact Nat.le_refl _, fun i hi => hother i (by omega)⟩

/-! ### an element of a row -/
theorem elem_cells {k : Key} {b cap i : Nat} {v : V} (hI : Inv P B0 S σ st w) (hpos : 0 < szOf P (st k).e) (hlive : (st k).live = true) (hσ : σ k = some (b, cap)) (hi : (st k).vs[i]? = some v) :
    ∃ (cur : Array Value) (css : List (List Value)) (c : List Value), w.heap[b]? = some (.cells cur (st k).e (0, 0)) ∧ css[i]? = some c ∧ RelC P S σ st w v c ∧ c.length = szOf P (st k).e ∧
      i * szOf P (st k).e + c.length ≤ css.flatten.length ∧ (∀ j, j < c.length → css.flatten[i * szOf P (st k).e + j]? = c[j]?) ∧ cur.toList.take ((st k).vs.length * szOf P (st k).e) = css.flatten ∧
      css.flatten.length ≤ cur.size ∧ css.flatten.length = (st k).vs.length * szOf P (st k).e ∧ (∀ c ∈ css, c.length = szOf P (st k).e) ∧ RelC.rels P S σ st w (st k).vs css ∧ cur.size = cap * szOf P (st k).e ∧ css.length = (st k).vs.length := by
  obtain ⟨_, hsome⟩ := (hI.own k hlive).row hpos
  obtain ⟨g1, g2, g3, cur, css, g4, g5, g6, g7, g8, g9, g10⟩ := hsome b cap hσ
  obtain ⟨c, hc, hrc⟩ := rels_at g10 hi
  have hcl := g9 c (List.mem_of_getElem? hc)
  have hlen := rels_length g10
  have hilt : i < css.length := (List.getElem?_eq_some_iff.1 hc).1
  obtain ⟨f1, f2⟩ := flatten_at hc
  rw [take_sum_const g9 (by omega)] at f1 f2
  have hfl : css.flatten.length = (st k).vs.length * szOf P (st k).e := by rw [length_flatten_eq g9, hlen]
  refine ⟨cur, css, c, g4, hc, hrc, hcl, f1, f2, g8, ?_, hfl, g9, g10, g5, hlen⟩
  rw [hfl, g5]
  exact Nat.mul_le_mul_right _ g6

theorem cell_of_take {cur : Array Value} {F : List Value} {N j : Nat} (h : cur.toList.take N = F) (hj : j < F.length) : cur[j]? = F[j]? := by
  have hN : j < N := by rw [← h] at hj; simp at hj; omega
  rw [← h, List.getElem?_take_of_lt hN]; simp

/-- Reading through a pointer into a row. -/
theorem load_ok {k : Key} {i : Nat} {path : List (TypeId × Nat)} {v x : V} {t : TypeId} {A : Addr} (hI : Inv P B0 S σ st w) (hlive : (st k).live = true) (hi : (st k).vs[i]? = some v) (hp : getPath v path = some x)
    (ht : hasT P t x = true) (hA : 0 < szOf P (st k).e ∧ ∃ b cap off, σ k = some (b, cap) ∧ pathOff P path = some off ∧ A = ⟨b, i * szOf P (st k).e + off, none⟩) :
    ∃ val, (loadVar t A).run P w = .ok val w ∧ RelV P S σ st w x val := by
  obtain ⟨hpos0, b, cap, off, hσ, hoff, rfl⟩ := hA
  obtain ⟨cur, css, c, h1, h2, h3, h4, h5, h6, h7, h8, h9, _⟩ := elem_cells hI hpos0 hlive hσ hi
  obtain ⟨off', cx, p1, p2, p3, p4⟩ := getPath_cells path v x c h3 hp
  rw [hoff] at p1; cases p1
  refine ⟨_, run_loadVar ht p2 ?_, (valOf_rel p2).v p2.not_tup⟩
  intro j u hj
  have hjl := (List.getElem?_eq_some_iff.1 hj).1
  rw [add_none, cell_of_row w b _ cur _ _ h1]
  have e1 : i * szOf P (st k).e + off + j = i * szOf P (st k).e + (off + j) := by omega
  rw [e1, cell_of_take h7 (by omega), h6 (off + j) (by omega), p4 j hjl, hj]

/-- Writing through a pointer into a row. -/
theorem store_ok {k : Key} {i : Nat} {path : List (TypeId × Nat)} {v old x v' : V} {val : Value} {t : TypeId} {A : Addr} (hI : Inv P B0 S σ st w) (hlive : (st k).live = true) (hi : (st k).vs[i]? = some v)
    (hp : getPath v path = some old) (hto : hasT P t old = true) (ht : hasT P t x = true) (hr : RelV P S σ st w x val) (hs : setPath v path x = some v')
    (hA : 0 < szOf P (st k).e ∧ ∃ b cap off, σ k = some (b, cap) ∧ pathOff P path = some off ∧ A = ⟨b, i * szOf P (st k).e + off, none⟩) :
    ∃ w', (storeVar t A val).run P w = .ok () w' ∧ Inv P B0 S σ (upd st k ⟨(st k).ver, (st k).e, setN (st k).vs i v', true⟩) w' ∧
      Evo S σ st w S σ (upd st k ⟨(st k).ver, (st k).e, setN (st k).vs i v', true⟩) w' ∧ Below B0 w w' := by
  obtain ⟨hpos0, b, cap, off, hσ, hoff, rfl⟩ := hA
  obtain ⟨cur, css, c, h1, h2, h3, h4, h5, h6, h7, h8, h9, h10, h11, h12, h13⟩ := elem_cells hI hpos0 hlive hσ hi
  obtain ⟨hc, _⟩ := (hr.n (hasT_tup ht)).cells (hasT_und ht)
  obtain ⟨off', cold, p1, p2, p3, p4⟩ := getPath_cells path v old c h3 hp
  have hl1 := hasT_length hto p2
  have hl2 := hasT_length ht hc
  obtain ⟨off2, q1, q2, q3⟩ := setPath_cells path v old x v' c cold val.cells.toList h3 hp p2 hc (by omega) hs
  rw [hoff] at q1; cases q1
  have hpos : i * szOf P (st k).e + off + val.cells.toList.length ≤ cur.size := by omega
  have hst := run_storeCells_at P b (i * szOf P (st k).e + off) (st k).e val.cells.toList 0 cur w h1 (by simpa using hpos) (RelC.one _ _ hc)
  simp only [Nat.add_zero] at hst
  have hcl : (c.take off ++ val.cells.toList ++ c.drop (off + val.cells.toList.length)).length = c.length := by simp; simp at q2; omega
  have hil : i < css.length := (List.getElem?_eq_some_iff.1 h2).1
  have hfs := flatten_set h2 hcl
  rw [take_sum_const h10 (by omega)] at hfs
  have hsp := splice_in (A := i * szOf P (st k).e) h5 h6 q2
  have hset : RelC.rels P S σ st w (setN (st k).vs i v') (css.set i (c.take off ++ val.cells.toList ++ c.drop (off + val.cells.toList.length))) := by
    rw [setN_eq]; exact rels_set h11 q3
  have hvl : (setN (st k).vs i v').length = (st k).vs.length := by rw [setN_eq]; simp
  obtain ⟨r1, r2, r3⟩ := setRow_ok (k := k) (v' := (st k).ver) (vs' := setN (st k).vs i v') hI hpos0 hlive hσ (Nat.le_refl _) hset
    (by
      intro c' hc'
      rcases List.mem_or_eq_of_mem_set hc' with h | h
      · exact h10 c' h
      · rw [h, hcl, h4])
    (cur' := (cur.toList.take (i * szOf P (st k).e + off) ++ val.cells.toList ++ cur.toList.drop (i * szOf P (st k).e + off + val.cells.toList.length)).toArray)
    (by
      rw [← h12]
      simp only [List.size_toArray, List.length_append, List.length_take, List.length_drop, Array.length_toList]
      simp at hpos ⊢
      omega)
    (by
      rw [hvl]
      obtain ⟨_, hsome⟩ := (hI.own k hlive).row hpos0
      obtain ⟨_, _, _, cur2, css2, _, _, g6, _⟩ := hsome b cap hσ
      exact g6)
    (by
      rw [hvl]
      rw [hfs, ← hsp, ← h7]
      refine splice_take ?_ ?_
      · omega
      · rw [Array.length_toList]; omega)
  refine ⟨_, ?_, r1, r2, r3⟩
  unfold storeVar
  simp only [Sem.run_bind, run_sizeOf (hasT_bad ht), Result.andThen_ok]
  have hcs : val.cells.size = szOf P t := by simpa using hl2
  simp only [hcs, ne_eq, not_true_eq_false, if_false]
  simpa using hst
end
end Go.Ev
end
section
set_option linter.unusedVariables false
set_option linter.unusedSimpArgs false
set_option linter.unusedSectionVars false
namespace Go.Ev
open Go.RowKit

section
variable {P : Program} {S : Nat → Prop} {σ : Sig} {st : Store} {w : World}

theorem RelN.to_v {v : V} {val : Value} (h : RelN P S σ st w v val) : RelV P S σ st w v val := by
  cases v <;> first
    | exact h
    | (rcases h with h | ⟨h, _⟩ | ⟨_, h⟩
       · cases h
       · cases h
       · exact h.elim)
theorem RelC.to_v {v : V} {val : Value} (h : RelC P S σ st w v [val]) (hv : v.isAgg = false) : RelV P S σ st w v val := (RelN.to_v (.inr (.inr ⟨hv, h⟩)))
theorem relNs_at : ∀ {vs : List V} {vals : List Value} {i : Nat} {v : V}, RelNs P S σ st w vs vals → vs[i]? = some v → ∃ u, vals[i]? = some u ∧ RelN P S σ st w v u
  | [], _, _, _, _, h => by simp at h
  | x :: ds, _, i, d, h, hi => by
    obtain ⟨c, r, rfl, h2, h3⟩ := h
    cases i with
    | zero => simp at hi; subst hi; exact ⟨c, rfl, h2⟩
    | succ i => simp at hi; simpa using relNs_at h3 hi

theorem relV_int {k : IntKind} {n : Int} {val : Value} (h : RelV P S σ st w (.d (.int k n)) val) : val = .int k n := by
  rcases h with h | ⟨h, _⟩ | ⟨_, h⟩
  · cases h
  · cases h
  · simpa [RelC, Fl] using h
theorem relV_bool {b : Bool} {val : Value} (h : RelV P S σ st w (.d (.bool b)) val) : val = .bool b := by
  rcases h with h | ⟨h, _⟩ | ⟨_, h⟩
  · cases h
  · cases h
  · simpa [RelC, Fl] using h
theorem relV_str {s : ByteArray} {val : Value} (h : RelV P S σ st w (.d (.str s)) val) : val = .string s := by
  rcases h with h | ⟨h, _⟩ | ⟨_, h⟩
  · cases h
  · cases h
  · simpa [RelC, Fl] using h
theorem relV_one {v : V} {val : Value} (h : RelV P S σ st w v val) (h1 : v.isAgg = false) (h2 : v ≠ .und) (h3 : ∀ vs, v ≠ .tup vs) : RelC P S σ st w v [val] := by
  rcases h.n h3 with h | ⟨h, _⟩ | ⟨_, h⟩
  · exact absurd h h2
  · rw [h1] at h; cases h
  · exact h
theorem int_rel (k : IntKind) (n : Int) : RelV P S σ st w (.d (.int k n)) (.int k n) := RelC.to_v rfl rfl
theorem bool_rel (b : Bool) : RelV P S σ st w (.d (.bool b)) (.bool b) := RelC.to_v rfl rfl
theorem str_rel (s : ByteArray) : RelV P S σ st w (.d (.str s)) (.string s) := RelC.to_v rfl rfl
theorem und_rel (val : Value) : RelV P S σ st w .und val := RelN.to_v (.inl rfl)

/-- The frames agree. -/
def EnvRel (P : Program) (S : Nat → Prop) (σ : Sig) (st : Store) (w : World) (env : List V) (tmps : Array Value) : Prop :=
  env.length = tmps.size ∧ ∀ i, RelV P S σ st w (V.get env i) (tmps.getD i undef)
theorem EnvRel.mono {S' : Nat → Prop} {σ' : Sig} {st' : Store} {w' : World} {env : List V} {tmps : Array Value} (h : EnvRel P S σ st w env tmps) (hE : Evo S σ st w S' σ' st' w') : EnvRel P S' σ' st' w' env tmps :=
  ⟨h.1, fun i => RelV.mono hE (h.2 i)⟩
theorem EnvRel.put {env : List V} {tmps : Array Value} {v : V} {val : Value} (h : EnvRel P S σ st w env tmps) (hv : RelV P S σ st w v val) (d : Tmp) : EnvRel P S σ st w (V.put env d v) (tmps.setIfInBounds d val) := by
  refine ⟨by rw [put_eq]; simp [h.1], fun i => ?_⟩
  rw [put_eq, get_eq]
  by_cases hi : d = i
  · subst hi
    by_cases hlt : d < env.length
    · have h1 : (env.set d v).getD d .und = v := by simp [List.getD, hlt]
      have h2 : (tmps.setIfInBounds d val).getD d undef = val := by simp [Array.getD, ← h.1, hlt]
      rw [h1, h2]; exact hv
    · have h1 : (env.set d v).getD d .und = .und := by simp [List.getD, hlt]
      rw [h1]; exact und_rel _
  · have h1 : (env.set d v).getD i .und = V.get env i := by rw [get_eq]; simp [List.getD, List.getElem?_set_ne hi]
    have h2 : (tmps.setIfInBounds d val).getD i undef = tmps.getD i undef := by simp [Array.getD_eq_getD_getElem?, Array.getElem?_setIfInBounds_ne hi]
    rw [h1, h2]; exact h.2 i
theorem EnvRel.putD {env : List V} {a : Act} {v : V} {val : Value} (h : EnvRel P S σ st w env a.tmps) (hv : RelV P S σ st w v val) (d : Option Tmp) : EnvRel P S σ st w (Ev.putD env d v) (a.put d val).tmps := by
  cases d with
  | none => exact h
  | some d => exact h.put hv d

theorem evalT_rel {env : List V} {a : Act} (h : EnvRel P S σ st w env a.tmps) (t : TypeId) (o : Operand) : RelV P S σ st w (evalT P env t o) (a.eval o) := by
  cases o with
  | tmp i => exact h.2 i
  | func f => exact RelC.to_v ⟨[], rfl, rfl⟩ rfl
  | global g => exact und_rel _
  | const v =>
    cases v with
    | bool b => exact bool_rel b
    | int k n => exact int_rel k n
    | string s => exact str_rel s
    | slice A n c =>
      cases A with
      | some A => exact und_rel _
      | none =>
        simp only [evalT, constT]
        split
        · rename_i hc
          obtain ⟨rfl, rfl⟩ := hc
          split
          · exact RelC.to_v ⟨none, rfl⟩ rfl
          · exact und_rel _
        · exact und_rel _
    | pointer A =>
      cases A with
      | none => exact RelC.to_v rfl rfl
      | some A => exact und_rel _
    | map A =>
      cases A with
      | none => exact RelC.to_v ⟨_, rfl, rfl⟩ rfl
      | some A => exact und_rel _
    | _ => exact und_rel _
theorem evArgs_rel {env : List V} {a : Act} (h : EnvRel P S σ st w env a.tmps) : ∀ (ts : List TypeId) (os : List Operand), (∀ x ∈ os.zip (evArgs P env ts os), RelV P S σ st w x.2 (a.eval x.1))
  | [], [] => by simp [evArgs]
  | _ :: _, [] => by simp
  | [], o :: os => by
    intro x hx
    simp only [evArgs, List.zip_cons_cons, List.mem_cons] at hx
    rcases hx with rfl | hx
    · exact evalT_rel h _ _
    · exact evArgs_rel h [] os x hx
  | t :: ts, o :: os => by
    intro x hx
    simp only [evArgs, List.zip_cons_cons, List.mem_cons] at hx
    rcases hx with rfl | hx
    · exact evalT_rel h _ _
    · exact evArgs_rel h ts os x hx
theorem evArgs_length {env : List V} : ∀ (ts : List TypeId) (os : List Operand), (evArgs P env ts os).length = os.length
  | [], [] => rfl
  | _ :: _, [] => rfl
  | [], o :: os => by simp [evArgs, evArgs_length [] os]
  | t :: ts, o :: os => by simp [evArgs, evArgs_length ts os]

/-! ### numbers and truth -/
theorem run_part {e : TypeId} {y : V} {cs c : List Value} {off : Nat} (h : hasT P e y = true) (hr : RelC P S σ st w y c) (hl : off + c.length ≤ cs.length) (hx : ∀ j, j < c.length → cs[off + j]? = c[j]?) :
    (part e cs.toArray off).run P w = .ok (valOf y c) w := by
  have hlen := hasT_length h hr
  unfold part valOf
  cases hv : y.isAgg
  · obtain ⟨u, rfl⟩ := hr.single hv
    have := hx 0 (by simp)
    simp at this
    simp only [Sem.run_bind, tk_not_agg (hasT_one h hv), Result.andThen_ok]
    simp [this]
  · obtain ⟨⟨n, r, hn⟩, _⟩ := hasT_agg h hv
    simp only [Sem.run_bind, tk_is_agg hn, Result.andThen_ok]
    simp only [if_true, Sem.run_bind, run_sizeOf (hasT_bad h), Result.andThen_ok, Sem.run_pure]
    rw [← hlen]
    congr 2
    apply Array.ext'
    simp only [Array.toList_extract, List.extract_eq_take_drop, Nat.add_sub_cancel_left]
    apply List.ext_getElem?
    intro j
    by_cases hj : j < c.length
    · rw [List.getElem?_take_of_lt hj, List.getElem?_drop, hx j hj]
    · rw [List.getElem?_eq_none (by simp; omega), List.getElem?_eq_none (by omega)]

/-! ### equality -/
theorem ek_agg {t : TypeId} (h : ek P t = .agg) : P.stoodInHeld t = false ∧ P.eqGuardType P.depth t = false ∧ ∀ fs, P.underlying t = some (.struct fs) → ∀ f ∈ fs.toList, f.name ≠ "_" := by
  unfold ek at h
  split at h <;> first | cases h | skip
  rename_i fs hu
  split at h
  · rename_i hc
    simp only [Bool.and_eq_true, Bool.not_eq_true', List.all_eq_true, bne_iff_ne, ne_eq] at hc
    refine ⟨hc.1.1, hc.1.2, fun fs' hu' f hf => ?_⟩
    rw [hu] at hu'
    cases hu'
    exact hc.2 f hf
  · cases h
theorem ek_int {t : TypeId} (h : ek P t = .int) : ∃ k, P.underlying t = some (.int k) := by
  unfold ek at h
  split at h <;> first | cases h | skip
  · rename_i k hu; exact ⟨k, hu⟩
  · split at h <;> cases h
theorem ek_ptr {t : TypeId} (h : ek P t = .ptr) : ∃ e, P.underlying t = some (.pointer e) := by
  unfold ek at h
  split at h <;> first | cases h | skip
  · rename_i e hu; exact ⟨e, hu⟩
  · split at h <;> cases h
theorem ek_bool {t : TypeId} (h : ek P t = .bool) : P.underlying t = some .bool := by
  unfold ek at h
  split at h <;> first | cases h | skip
  · rename_i hu; exact hu
  · split at h <;> cases h
theorem ek_str {t : TypeId} (h : ek P t = .str) : P.underlying t = some .string := by
  unfold ek at h
  split at h <;> first | cases h | skip
  · rename_i hu; exact hu
  · split at h <;> cases h
theorem and2_some {x y : Option Bool} {b : Bool} (h : and2 x y = some b) : ∃ p q, x = some p ∧ y = some q ∧ b = (p && q) := by
  unfold and2 at h
  split at h
  · rename_i p q; cases h; exact ⟨p, q, rfl, rfl, rfl⟩
  · cases h
theorem eqFields_sound {n d : Nat} {fs : List Field} {cx cy : List (List Value)} (ih : ∀ (t : TypeId) (x y : D) (b : Bool) (u v : List Value), eqD P n t x y = some b → Fl P S w x u → Fl P S w y v → (Op.equalIn (n + d) t (valOf (.d x) u) (valOf (.d y) v)).run P w = .ok b w)
    (hn : ∀ f ∈ fs, f.name ≠ "_") (ho : offsOk P 0 fs = true) (hx : cx.map List.length = fs.map fun f => szOf P f.type) (hy : cy.map List.length = fs.map fun f => szOf P f.type) :
    ∀ (k : Nat) (xs ys : List D) (b : Bool), eqD.eqDs P n ((fs.drop k).map (·.type)) xs ys = some b → Fl.fls P S w xs (cx.drop k) → Fl.fls P S w ys (cy.drop k) →
      (Op.eqFields (n + d) cx.flatten.toArray cy.flatten.toArray (fs.drop k)).run P w = .ok b w := by
  intro k
  generalize hm : fs.length - k = m
  induction m generalizing k with
  | zero =>
    intro xs ys b h _ _
    have hk : fs.drop k = [] := List.drop_eq_nil_of_le (by omega)
    rw [hk] at h ⊢
    simp only [List.map_nil] at h
    unfold eqD.eqDs at h
    split at h
    · cases h; rfl
    · rename_i heq _ _; cases heq
    · cases h
  | succ m ihm =>
    intro xs ys b h fx fy
    have hlt : k < fs.length := by omega
    have hd : fs.drop k = fs[k] :: fs.drop (k + 1) := List.drop_eq_getElem_cons hlt
    rw [hd] at h ⊢
    simp only [List.map_cons] at h
    unfold eqD.eqDs at h
    split at h
    · rename_i heq; cases heq
    · rename_i e es x xs' y ys' heq
      cases heq
      split at h
      · rename_i hty
        obtain ⟨p, q, h1, h2, rfl⟩ := and2_some h
        have lx : k < cx.length := by have := congrArg List.length hx; simp at this; omega
        have ly : k < cy.length := by have := congrArg List.length hy; simp at this; omega
        rw [List.drop_eq_getElem_cons lx] at fx
        rw [List.drop_eq_getElem_cons ly] at fy
        obtain ⟨u, r, e1, f1, f2⟩ := fx
        cases e1
        obtain ⟨u', r', e2, g1, g2⟩ := fy
        cases e2
        obtain ⟨o1, o2⟩ := offsOk_spec _ _ ho
        have hoff := o2 k _ (List.getElem?_eq_getElem hlt)
        simp only [Nat.zero_add] at hoff
        obtain ⟨a1, a2⟩ := flatten_at (List.getElem?_eq_getElem lx)
        obtain ⟨b1, b2⟩ := flatten_at (List.getElem?_eq_getElem ly)
        rw [hx] at a1 a2
        rw [hy] at b1 b2
        have r1 : (part fs[k].type cx.flatten.toArray fs[k].offset).run P w = .ok (valOf (.d x) cx[k]) w := by
          rw [hoff]; exact run_part (σ := fun _ => none) (st := empty) hty.1 f1 a1 a2
        have r2 : (part fs[k].type cy.flatten.toArray fs[k].offset).run P w = .ok (valOf (.d y) cy[k]) w := by
          rw [hoff]; exact run_part (σ := fun _ => none) (st := empty) hty.2 g1 b1 b2
        have hname : fs[k].name ≠ "_" := hn _ (List.getElem_mem hlt)
        unfold Op.eqFields
        rw [if_pos hname]
        simp only [Sem.run_bind, r1, r2, Result.andThen_ok, ih _ _ _ _ _ _ h1 f1 g1]
        cases p
        · simp
        · simp only [Bool.not_true, Bool.false_eq_true, if_false, Bool.true_and]
          exact ihm (k + 1) (by omega) _ _ _ h2 f2 g2
      · cases h
    · cases h
theorem eqD_sound (d : Nat) : ∀ (n : Nat) (t : TypeId) (x y : D) (b : Bool) (u v : List Value), eqD P n t x y = some b → Fl P S w x u → Fl P S w y v → (Op.equalIn (n + d) t (valOf (.d x) u) (valOf (.d y) v)).run P w = .ok b w
  | 0, _, _, _, _, _, _, h, _, _ => by simp [eqD] at h
  | n + 1, t, x, y, b, u, v, h, hx, hy => by
    have e : n + 1 + d = n + d + 1 := by omega
    rw [e]
    unfold eqD at h
    split at h
    · rename_i k p k' q hk
      split at h
      · rename_i hkk
        subst hkk
        cases h
        obtain ⟨k0, hu⟩ := ek_int hk
        cases hx; cases hy
        exact run_equalIn_int w (n + d) t k k0 p q hu
      · cases h
    · rename_i p q hk
      cases h
      cases hx; cases hy
      exact run_equalIn_bool' w (n + d) t p q (ek_bool hk)
    · rename_i p q hk
      cases h
      cases hx; cases hy
      exact run_equalIn_string w (n + d) t p q (ek_str hk)
    · rename_i t1 xs t2 ys hk
      split at h
      · rename_i ht
        obtain ⟨rfl, ht2⟩ := ht
        subst ht2
        split at h
        · rename_i m htk
          obtain ⟨cx, rfl, hcx, fx⟩ := hx
          obtain ⟨cy, rfl, hcy, fy⟩ := hy
          obtain ⟨s1, _, s3⟩ := ek_agg hk
          obtain ⟨⟨l, hl, hn⟩, ⟨fs, hu, _⟩ | ⟨m', e', hu, hr⟩⟩ := tk_agg htk
          · obtain ⟨rfl, ho, _⟩ := comps_struct hu hl
            rw [hl] at hcx hcy
            have hcx := (Option.some.inj hcx).symm
            have hcy := (Option.some.inj hcy).symm
            have hff : P.fieldsOf t2 = fs := by unfold Program.fieldsOf; rw [hu]
            have hct : compTs P t2 = fs.toList.map (·.type) := by unfold compTs; rw [hu]
            rw [hct] at h
            show (Op.equalIn (n + d + 1) t2 (.agg cx.flatten.toArray) (.agg cy.flatten.toArray)).run P w = .ok b w
            rw [run_equalIn_agg w (n + d) t2 _ _ (by rw [hff]; exact hu) s1, hff]
            have := eqFields_sound (fs := fs.toList) (n := n) (d := d) (cx := cx) (cy := cy) (fun t x y b u v => eqD_sound d n t x y b u v) (s3 fs hu) ho hcx hcy 0 xs ys b h fx fy
            exact this
          · cases hr
        · cases h
      · cases h
    · cases h
theorem bin_sound {op : BinOp} {t : TypeId} {x y : Operand} {xv yv : V} {a b : Value} {v : V} (h : evBin P op t xv yv = some v) (hx : RelV P S σ st w xv a) (hy : RelV P S σ st w yv b) :
    ∃ val, (do eqGuard op t x y a b; binOp op t a b : Sem Value).run P w = .ok val w ∧ RelV P S σ st w v val := by
  unfold evBin at h
  split at h
  · rename_i k p k' q
    have := relV_int hx; subst this
    have := relV_int hy; subst this
    have hg : (eqGuard op t x y (.int k p) (.int k' q)).run P w = .ok () w := by
      unfold eqGuard; cases op <;> simp
    simp only [Sem.run_bind, hg, Result.andThen_ok]
    split at h
    · split at h
      · cases h
      · rename_i hb; cases h
        refine ⟨_, ?_, int_rel _ _⟩
        simp [binOp, Op.shift, hb, shlI]
    · split at h
      · cases h
      · rename_i hb; cases h
        refine ⟨_, ?_, int_rel _ _⟩
        simp [binOp, Op.shift, hb, shrI]
    · rename_i h1 h2
      split at h
      · rename_i hk
        subst hk
        have hne1 : op ≠ .shl := fun e => h1 e
        have hne2 : op ≠ .shr := fun e => h2 e
        cases op <;> first
          | exact absurd rfl hne1
          | exact absurd rfl hne2
          | (simp only [Option.some.injEq] at h; subst h
             first
               | exact ⟨_, by simp [binOp, Op.intArith] <;> rfl, int_rel _ _⟩
               | exact ⟨_, by simp [binOp, Op.intCmp] <;> rfl, bool_rel _⟩
               | exact ⟨_, by simp [binOp, Op.intBits, bitsI] <;> rfl, int_rel _ _⟩)
          | (dsimp only at h
             split at h
             · cases h
             · rename_i hb; cases h
               first
                 | exact ⟨.int k (k.wrap (p.tdiv q)), by simp [binOp, Op.intDiv, hb], int_rel _ _⟩
                 | exact ⟨.int k (p.tmod q), by simp [binOp, Op.intDiv, hb], int_rel _ _⟩)
          | cases h
      · cases h
  · rename_i p q
    have := relV_bool hx; subst this
    have := relV_bool hy; subst this
    have hg : (eqGuard op t x y (.bool p) (.bool q)).run P w = .ok () w := by
      unfold eqGuard; cases op <;> simp
    simp only [Sem.run_bind, hg, Result.andThen_ok]
    have hu : ∀ {v : V} {z : V}, (if P.underlying t matches some .bool then some z else none) = some v → P.underlying t = some .bool ∧ z = v := by
      intro v z h
      split at h
      · rename_i hm
        refine ⟨?_, Option.some.inj h⟩
        cases hq : P.underlying t with
        | none => rw [hq] at hm; simp at hm
        | some d => rw [hq] at hm; cases d <;> simp at hm; rfl
      · cases h
    cases op <;> simp only at h <;> first
      | cases h
      | (obtain ⟨hb, rfl⟩ := hu h
         first
           | exact ⟨_, run_eql_bool (P := P) w t p q hb, bool_rel _⟩
           | exact ⟨_, run_neq_bool (P := P) w t p q hb, bool_rel _⟩)
  · rename_i p q
    have := relV_str hx; subst this
    have := relV_str hy; subst this
    have hg : (eqGuard op t x y (.string p) (.string q)).run P w = .ok () w := by
      unfold eqGuard; cases op <;> simp
    simp only [Sem.run_bind, hg, Result.andThen_ok]
    cases op <;> simp only at h <;> first
      | (cases h; done)
      | (split at h
         · cases h
         · rename_i hn
           cases h
           exact ⟨.string (p ++ q), by simp only [binOp, Op.stringOp, hn, if_false, Sem.run_pure], str_rel _⟩)
      | (simp only [Option.some.injEq] at h; subst h
         exact ⟨_, by simp only [binOp, Op.stringOp, Sem.run_pure], bool_rel _⟩)
  · rename_i t1 xs t2 ys
    obtain ⟨cx, rfl, hcx⟩ : ∃ cs : List Value, a = .agg cs.toArray ∧ Fl P S w (.agg t1 xs) cs := by
      rcases hx with h | ⟨_, cs, h1, h2⟩ | ⟨h, _⟩
      · cases h
      · exact ⟨cs, h1, h2⟩
      · cases h
    obtain ⟨cy, rfl, hcy⟩ : ∃ cs : List Value, b = .agg cs.toArray ∧ Fl P S w (.agg t2 ys) cs := by
      rcases hy with h | ⟨_, cs, h1, h2⟩ | ⟨h, _⟩
      · cases h
      · exact ⟨cs, h1, h2⟩
      · cases h
    have hm : ∀ {q : Bool}, eqD P 20 t (.agg t1 xs) (.agg t2 ys) = some q → (Op.equalIn 10000 t (.agg cx.toArray) (.agg cy.toArray)).run P w = .ok q w ∧ P.eqGuardType P.depth t = false := by
      intro q hq
      have hk : ek P t = .agg := by
        unfold eqD at hq
        cases hk : ek P t <;> rw [hk] at hq <;> first | rfl | (simp only at hq; cases hq)
      exact ⟨eqD_sound 9980 20 t _ _ q _ _ hq hcx hcy, (ek_agg hk).2.1⟩
    cases op <;> simp only at h <;> first
      | cases h
      | (split at h
         · rename_i q hq
           cases h
           obtain ⟨h1, h2⟩ := hm hq
           refine ⟨_, ?_, bool_rel _⟩
           rw [Sem.run_bind, run_eqGuard_agg w _ t x y _ _ h2, Result.andThen_ok]
           first
             | rw [run_eql_struct w t _ _, h1, Result.andThen_ok]
             | rw [run_neq_struct w t _ _, h1, Result.andThen_ok]
         · cases h)
  · cases h

theorem un_sound {op : UnOp} {xv : V} {a : Value} {v : V} (h : evUn op xv = some v) (hx : RelV P S σ st w xv a) : ∃ val, (Op.unary op a).run P w = .ok val w ∧ RelV P S σ st w v val := by
  unfold evUn at h
  split at h
  · rename_i k n
    have := relV_int hx; subst this
    split at h
    · cases h; exact ⟨_, by simp [Op.unary, Op.intArith] <;> rfl, int_rel _ _⟩
    · cases h; exact ⟨_, by simp [Op.unary, Op.intBits, bitsI] <;> rfl, int_rel _ _⟩
    · cases h
  · rename_i b
    have := relV_bool hx; subst this
    split at h
    · cases h; exact ⟨_, by simp [Op.unary] <;> rfl, bool_rel _⟩
    · cases h
  · cases h

theorem intK_spec {t : TypeId} {k : IntKind} (h : intK P t = some k) : P.underlying t = some (.int k) := by
  unfold intK at h
  split at h
  · rename_i k' hu; cases h; exact hu
  · cases h
theorem conv_sound {s t : TypeId} {xv : V} {a : Value} {v : V} (h : evConv P s t xv = some v) (hx : RelV P S σ st w xv a) : ∃ val, (convert s t a).run P w = .ok val w ∧ RelV P S σ st w v val := by
  unfold evConv at h
  split at h
  · rename_i k n
    have := relV_int hx; subst this
    split at h
    · rename_i k1 k2 h1 h2
      cases h
      refine ⟨_, ?_, int_rel _ _⟩
      simp [convert, run_underlying (intK_spec h1), run_underlying (intK_spec h2), Conv.intToInt]
    · cases h
  · cases h

/-! ### lengths, least and greatest -/
theorem relV_rs {er : TypeId} {k : Key} {ver off len : Nat} {full : Bool} {val : Value} (h : RelV P S σ st w (.rs er k ver off len full) val) :
    ∃ A c, val = .slice A len c ∧ len ≤ c ∧ (0 < len → ∃ a, A = some a) ∧ ver ≤ (st k).ver ∧ (ver = (st k).ver → (st k).live = true → (st k).e = er ∧ 0 < szOf P er ∧ (σ k = none → off = 0 ∧ c = 0) ∧ ∀ b cap, σ k = some (b, cap) → (c = 0 ∨ A = some ⟨b, off * szOf P (st k).e, none⟩) ∧ off + c ≤ cap ∧ (full = true → off + c = cap)) := by
  obtain ⟨A, c, h1, h2⟩ := relV_one h rfl (by simp) (by simp)
  simp at h1
  exact ⟨A, c, h1, h2⟩
theorem relV_nils {e : TypeId} {val : Value} (h : RelV P S σ st w (.nils e) val) : ∃ A, val = .slice A 0 0 := by
  obtain ⟨A, h1⟩ := relV_one h rfl (by simp) (by simp)
  simp at h1
  exact ⟨A, h1⟩
theorem relV_sl {e : TypeId} {ds : List D} {val : Value} (h : RelV P S σ st w (.d (.sl e ds)) val) : ∃ A cap, val = .slice A ds.length cap ∧ (ds = [] ∨ ∃ (b o : Nat) (css : List (List Value)), A = some ⟨b, o, none⟩ ∧ S b ∧ ds.length ≤ cap ∧
      (∀ c ∈ css, c.length = szOf P e) ∧ cellsAt w b o css.flatten ∧ Fl.fls P S w ds css) := by
  obtain ⟨A, cap, h1, h2⟩ := relV_one h rfl (by simp) (by simp)
  simp at h1
  exact ⟨A, cap, h1, h2⟩
theorem equalIn_nil {t e : TypeId} (hu : P.underlying t = some (.slice e)) (d : Nat) (A : Addr) (m c' n c : Nat) (w : World) : (Op.equalIn (d + 1) t (.slice (some A) m c') (.slice none n c)).run P w = .ok false w := by
  simp only [Op.equalIn, Sem.run_bind, run_underlying hu, Result.andThen_ok, Sem.run_pure]
theorem equal_nil {t e : TypeId} (hu : P.underlying t = some (.slice e)) (A : Addr) (m c' n c : Nat) (w : World) : (Op.equal t (.slice (some A) m c') (.slice none n c)).run P w = .ok false w := equalIn_nil hu 9999 A m c' n c w
theorem equalIn_ptr {t e : TypeId} (hu : P.underlying t = some (.pointer e)) (d : Nat) (A : Option Addr) (w : World) : (Op.equalIn (d + 1) t (.pointer A) (.pointer none)).run P w = .ok A.isNone w := by
  cases A <;> simp [Op.equalIn, run_underlying hu]
theorem binO_sound {env : List V} {a : Act} {op : BinOp} {t : TypeId} {x y : Operand} {v : V} (h : evBinO P (evalT P env) op t x y = some v) (hrel : EnvRel P S σ st w env a.tmps) :
    ∃ val, (do eqGuard op t x y (a.eval x) (a.eval y); binOp op t (a.eval x) (a.eval y) : Sem Value).run P w = .ok val w ∧ RelV P S σ st w v val := by
  unfold evBinO at h
  split at h
  · rename_i hy
    split at h
    · rename_i e hk
      obtain ⟨hu, _⟩ := tk_sl hk
      have hya : ∃ n c, y = .const (.slice none n c) := by
        unfold isNilC at hy
        split at hy
        · exact ⟨_, _, rfl⟩
        · cases hy
      obtain ⟨n, c, rfl⟩ := hya
      have hev : a.eval (.const (.slice none n c)) = .slice none n c := rfl
      have hx := evalT_rel hrel t x
      have hsl : ∃ A m c', a.eval x = .slice (some A) m c' ∧ ((op = .eql ∧ v = .d (.bool false)) ∨ (op = .neq ∧ v = .d (.bool true))) := by
        have hsv : ∀ {b : Bool}, (match evalT P env t x with | .d (.sl _ ds) => if 0 < ds.length then some (V.d (.bool b)) else none | .rs _ _ _ _ len _ => if 0 < len then some (V.d (.bool b)) else none | _ => none) = some v → (∃ A m c', a.eval x = .slice (some A) m c') ∧ v = .d (.bool b) := by
          intro b hm
          split at hm
          · rename_i e' ds hv
            rw [hv] at hx
            split at hm
            · rename_i hl
              cases hm
              obtain ⟨A, cap, hA, hds⟩ := relV_sl hx
              rcases hds with rfl | ⟨b', o, css, rfl, _⟩
              · simp at hl
              · exact ⟨⟨_, _, _, hA⟩, rfl⟩
            · cases hm
          · rename_i hv
            rw [hv] at hx
            split at hm
            · rename_i hl
              cases hm
              obtain ⟨A, c', hA, _, hs, _⟩ := relV_rs hx
              obtain ⟨A', rfl⟩ := hs hl
              exact ⟨⟨_, _, _, hA⟩, rfl⟩
            · cases hm
          · cases hm
        unfold evNil at h
        split at h
        · obtain ⟨⟨A, m, c', h1⟩, h2⟩ := hsv h
          exact ⟨A, m, c', h1, .inl ⟨rfl, h2⟩⟩
        · obtain ⟨⟨A, m, c', h1⟩, h2⟩ := hsv h
          exact ⟨A, m, c', h1, .inr ⟨rfl, h2⟩⟩
        · cases h
      obtain ⟨A, m, c', hA, hop⟩ := hsl
      rw [hA, hev]
      rcases hop with ⟨rfl, rfl⟩ | ⟨rfl, rfl⟩
      · refine ⟨.bool false, ?_, bool_rel _⟩
        simp only [eqGuard, binOp, Sem.run_bind, Sem.run_pure, Result.andThen_ok, equal_nil hu]; rfl
      · refine ⟨.bool true, ?_, bool_rel _⟩
        simp only [eqGuard, binOp, Sem.run_bind, Sem.run_pure, Result.andThen_ok, equal_nil hu]; rfl
    · cases h
  · split at h
    · rename_i hy
      split at h
      · rename_i hk
        obtain ⟨e, hu⟩ := ek_ptr hk
        have hya : y = .const (.pointer none) := by
          unfold isNilP at hy
          split at hy
          · rfl
          · cases hy
        subst hya
        have hev : a.eval (.const (.pointer none)) = .pointer none := rfl
        have hx := evalT_rel hrel t x
        have hpt : (a.eval x = .pointer none ∧ ((op = .eql ∧ v = .d (.bool true)) ∨ (op = .neq ∧ v = .d (.bool false)))) ∨ ∃ A, a.eval x = .pointer (some A) ∧ ((op = .eql ∧ v = .d (.bool false)) ∨ (op = .neq ∧ v = .d (.bool true))) := by
          unfold evNilP at h
          split at h
          · rename_i hv
            rw [hv] at hx
            have := relV_one hx rfl (by simp) (by simp)
            have e1 : [a.eval x] = [Value.pointer none] := this
            refine .inl ⟨by simpa using e1, ?_⟩
            split at h <;> first | (cases h; exact .inl ⟨rfl, rfl⟩) | (cases h; exact .inr ⟨rfl, rfl⟩) | cases h
          · rename_i y hv
            rw [hv] at hx
            obtain ⟨b, o, xs, h1, _⟩ := relV_one hx rfl (by simp) (by simp)
            refine .inr ⟨_, by simpa using h1, ?_⟩
            split at h <;> first | (cases h; exact .inl ⟨rfl, rfl⟩) | (cases h; exact .inr ⟨rfl, rfl⟩) | cases h
          · rename_i k ver i path hv
            rw [hv] at hx
            obtain ⟨A, h1, _⟩ := relV_one hx rfl (by simp) (by simp)
            refine .inr ⟨A, by simpa using h1, ?_⟩
            split at h <;> first | (cases h; exact .inl ⟨rfl, rfl⟩) | (cases h; exact .inr ⟨rfl, rfl⟩) | cases h
          · cases h
        have eq1 : ∀ (A : Option Addr) (w : World), (Op.equal t (.pointer A) (.pointer none)).run P w = .ok A.isNone w := fun A w => equalIn_ptr hu 9999 A w
        rw [hev]
        rcases hpt with ⟨hA, hop⟩ | ⟨A, hA, hop⟩ <;> rw [hA] <;> rcases hop with ⟨rfl, rfl⟩ | ⟨rfl, rfl⟩
        · exact ⟨.bool true, by simp [eqGuard, binOp, eq1], bool_rel _⟩
        · exact ⟨.bool false, by simp [eqGuard, binOp, eq1], bool_rel _⟩
        · exact ⟨.bool false, by simp [eqGuard, binOp, eq1], bool_rel _⟩
        · exact ⟨.bool true, by simp [eqGuard, binOp, eq1], bool_rel _⟩
      · cases h
    · exact bin_sound h (evalT_rel hrel _ _) (evalT_rel hrel _ _)
end
end Go.Ev
end
section
set_option linter.unusedVariables false
set_option linter.unusedSimpArgs false
set_option linter.unusedSectionVars false
namespace Go.Ev
open Go.RowKit

section
variable {P : Program} {S : Nat → Prop} {σ : Sig} {st : Store} {w : World}

theorem szOf_pos_info {t : TypeId} (h : 0 < szOf P t) : ∃ i, P.info? t = some i := by
  unfold szOf Program.cellsOf at h
  cases hi : P.info? t with
  | none => rw [hi] at h; simp at h
  | some i => exact ⟨i, rfl⟩
theorem run_sizeOf_pos {t : TypeId} (h : 0 < szOf P t) (w : World) : (sizeOf t).run P w = .ok (szOf P t) w := by
  obtain ⟨i, hi⟩ := szOf_pos_info h
  simp [sizeOf, typeInfo, hi, szOf_info hi]
theorem pathOff_append {path : List (TypeId × Nat)} {t : TypeId} {f off : Nat} {l : List Nat} (h : pathOff P path = some off) (hc : comps P t = some l) (hf : f < l.length) :
    pathOff P (path ++ [(t, f)]) = some (off + (l.take f).sum) := by
  induction path generalizing off with
  | nil => simp [pathOff] at h; subst h; simp [pathOff, hc, hf]
  | cons x r ih =>
    obtain ⟨t', i⟩ := x
    simp only [pathOff] at h
    cases hq : comps P t' with
    | none => rw [hq] at h; simp at h
    | some l' =>
      cases hr : pathOff P r with
      | none => rw [hq, hr] at h; simp at h
      | some n =>
        rw [hq, hr] at h
        simp only at h
        split at h
        · rename_i hlt
          cases h
          have := ih hr
          simp only [List.cons_append, pathOff, hq, this, if_pos hlt]
          congr 1; omega
        · cases h

/-- A field's address. -/
theorem run_fieldAt {t : TypeId} {f n : Nat} {A : Addr} (h : tk P t = .agg n false) (hf : f < n) (w : World) : ∃ (l : List Nat), comps P t = some l ∧ l.length = n ∧
    (Instr.fieldAt t (.pointer (some A)) f).run P w = .ok (.pointer (some (A.add (l.take f).sum))) w := by
  obtain ⟨⟨l, hl, hn⟩, ⟨fs, hu, _⟩ | ⟨m, e, hu, hr⟩⟩ := tk_agg h
  · obtain ⟨rfl, ho, hs, _⟩ := comps_struct hu hl
    obtain ⟨h1, h2⟩ := offsOk_spec _ _ ho
    have hlt : f < fs.toList.length := by simp at hn; simp; omega
    have hfs : fs.toList[f]? = some fs.toList[f] := List.getElem?_eq_getElem hlt
    have hfa : fs[f]? = some fs.toList[f] := by rw [← Array.getElem?_toList]; exact hfs
    have hoff := h2 f _ hfs
    have hpos := h1 _ (List.mem_of_getElem? hfs)
    refine ⟨_, hl, hn, ?_⟩
    simp only [Nat.zero_add] at hoff
    have hne : szOf P fs.toList[f].type ≠ 0 := by omega
    unfold Instr.fieldAt
    simp only [Sem.run_bind, run_underlying hu, Result.andThen_ok, hfa, Instr.sureAddr, Sem.run_pure, fieldPlace, run_sizeOf_pos hpos, hne, if_false]
    rw [← hoff]
  · cases hr

/-- A component of an aggregate. -/
theorem agg_at {t : TypeId} {f : Nat} {y : V} {css : List (List Value)} {c : List Value} {vs : List V} (hc : css[f]? = some c) (hy : RelC P S σ st w y c) :
    ((css.map List.length).take f).sum + c.length ≤ css.flatten.length ∧ ∀ j, j < c.length → css.flatten[((css.map List.length).take f).sum + j]? = c[j]? := flatten_at hc
theorem field_sound {t e : TypeId} {f n : Nat} {y : V} {css : List (List Value)} {c : List Value} (hk : tk P t = .agg n false) (he : compT P t f = some e) (ht : hasT P e y = true)
    (hcomp : comps P t = some (css.map List.length)) (hc : css[f]? = some c) (hy : RelC P S σ st w y c) : (Instr.field t (.agg css.flatten.toArray) f).run P w = .ok (valOf y c) w := by
  obtain ⟨⟨l, hl, hn⟩, ⟨fs, hu, _⟩ | ⟨m, e', hu, hr⟩⟩ := tk_agg hk
  · obtain ⟨rfl, ho, hs, _⟩ := comps_struct hu hl
    obtain ⟨h1, h2⟩ := offsOk_spec _ _ ho
    have hcl : f < css.length := (List.getElem?_eq_some_iff.1 hc).1
    rw [hl] at hcomp
    have hcomp := Option.some.inj hcomp
    have hlt : f < fs.toList.length := by
      have := congrArg List.length hcomp
      simp at this; simp; omega
    have hfs : fs.toList[f]? = some fs.toList[f] := List.getElem?_eq_getElem hlt
    have hfa : fs[f]? = some fs.toList[f] := by rw [← Array.getElem?_toList]; exact hfs
    have hoff := h2 f _ hfs
    simp only [Nat.zero_add] at hoff
    have hte : fs.toList[f].type = e := by
      unfold compT compTs at he
      rw [hu, nth_eq] at he
      simp only [List.getElem?_map, hfs, Option.map_some, Option.some.injEq] at he
      exact he
    obtain ⟨g1, g2⟩ := flatten_at hc
    unfold Instr.field
    simp only [Sem.run_bind, run_underlying hu, Result.andThen_ok, hfa, asAgg, Sem.run_pure]
    rw [hte, hoff, hcomp]
    exact run_part ht hy g1 g2
  · cases hr

/-! ### slices -/
theorem optI_rel {env : List V} {a : Act} (h : EnvRel P S σ st w env a.tmps) {o : Option Operand} {r : Option Int} (ho : optI (o.map (evalT P env 0)) = some r) :
    (o.map a.eval = none ∧ r = none) ∨ ∃ k n, o.map a.eval = some (.int k n) ∧ r = some n := by
  cases o with
  | none => simp [optI] at ho; exact .inl ⟨rfl, ho.symm⟩
  | some x =>
    simp only [Option.map_some] at ho
    have hr := evalT_rel h 0 x
    unfold optI at ho
    split at ho
    · rename_i hq; cases hq
    · rename_i k n hq
      cases ho
      rw [Option.some.inj hq] at hr
      exact .inr ⟨k, n, by simp [relV_int hr], rfl⟩
    · cases ho

/-- The model's slicing, by whole numbers. -/
theorem run_slice_ints {t e : TypeId} (hu : P.underlying t = some (.slice e)) (hpos : 0 < szOf P e) (A : Option Addr) (len cap : Nat) (lo hi mx : Option Value) (l h m : Option Int)
    (hl : (lo = none ∧ l = none) ∨ ∃ k n, lo = some (.int k n) ∧ l = some n) (hh : (hi = none ∧ h = none) ∨ ∃ k n, hi = some (.int k n) ∧ h = some n) (hm : (mx = none ∧ m = none) ∨ ∃ k n, mx = some (.int k n) ∧ m = some n)
    (h1 : 0 ≤ l.getD 0) (h2 : l.getD 0 ≤ h.getD len) (h3 : h.getD len ≤ cap) (h4 : ∀ q, m = some q → h.isSome = true ∧ h.getD len ≤ q ∧ q ≤ cap) (w : World) :
    (Instr.sliceAt t (.slice A len cap) lo hi mx).run P w = .ok (sliced A (l.getD 0).toNat (h.getD len).toNat ((m.getD cap).toNat) (szOf P e)) w := by
  have hb : ∀ (i : Int) (y : Nat) (k : IntKind) (code : BoundsCode), 0 ≤ i → i ≤ y → (Instr.sliceBound (.int k i) y code).run P w = .ok i.toNat w := fun i y k code g1 g2 => run_sliceBound (P := P) w k i y code g1 g2
  have hsz := run_sizeOf_pos hpos w
  have e2 : ∀ (h : Int), 0 ≤ h → (h.toNat : Int) = h := fun h g => Int.toNat_of_nonneg g
  unfold Instr.sliceAt Instr.slice Instr.sliceBounds
  rcases hm with ⟨rfl, rfl⟩ | ⟨km, m, rfl, rfl⟩
  · rcases hh with ⟨rfl, rfl⟩ | ⟨kh, h, rfl, rfl⟩ <;> rcases hl with ⟨rfl, rfl⟩ | ⟨kl, l, rfl, rfl⟩ <;> simp only [Option.getD_none, Option.getD_some] at h1 h2 h3 ⊢
    · simp [run_underlying hu, hsz, sliced]
    · simp [run_underlying hu, hsz, sliced, hb l len kl _ h1 h2]
    · simp [run_underlying hu, hsz, sliced, hb h cap kh _ h2 h3]
    · have g : 0 ≤ h := by omega
      simp [run_underlying hu, hsz, sliced, hb h cap kh _ g h3, hb l h.toNat kl _ h1 (by rw [e2 h g]; exact h2)]
  · obtain ⟨hs, g1, g2⟩ := h4 m rfl
    rcases hh with ⟨rfl, rfl⟩ | ⟨kh, h, rfl, rfl⟩
    · simp at hs
    · simp only [Option.getD_some] at h2 h3 g1
      rcases hl with ⟨rfl, rfl⟩ | ⟨kl, l, rfl, rfl⟩ <;> simp only [Option.getD_none, Option.getD_some] at h1 h2 ⊢
      · have gm : 0 ≤ m := by omega
        simp [run_underlying hu, hsz, sliced, hb m cap km _ gm g2, hb h m.toNat kh _ h2 (by rw [e2 m gm]; exact g1)]
      · have g : 0 ≤ h := by omega
        have gm : 0 ≤ m := by omega
        simp [run_underlying hu, hsz, sliced, hb m cap km _ gm g2, hb h m.toNat kh _ g (by rw [e2 m gm]; exact g1), hb l h.toNat kl _ h1 (by rw [e2 h g]; exact h2)]
theorem drop_take_cells {w : World} {b o s l h : Nat} {css : List (List Value)} (hat : cellsAt w b o css.flatten) (hs : ∀ c ∈ css, c.length = s) (hl : l ≤ h) (hh : h ≤ css.length) :
    cellsAt w b (o + l * s) ((css.take h).drop l).flatten := by
  have e1 : css = css.take l ++ ((css.take h).drop l ++ css.drop h) := by
    have h1 : css.take l = (css.take h).take l := by rw [List.take_take, Nat.min_eq_left hl]
    rw [← List.append_assoc, h1, List.take_append_drop, List.take_append_drop]
  have e2 : (css.take l).flatten.length = l * s := by
    rw [length_flatten_eq (fun c hc => hs c (List.mem_of_mem_take hc)), List.length_take, Nat.min_eq_left (by omega)]
  have e3 : css.flatten = (css.take l).flatten ++ (((css.take h).drop l).flatten ++ (css.drop h).flatten) := by
    conv => lhs; rw [e1]
    simp only [List.flatten_append]
  refine hat.part ?_ ?_
  · rw [e3]; simp only [List.length_append, e2]; omega
  · intro j hj
    rw [e3, List.getElem?_append_right (by omega), e2, show l * s + j - l * s = j by omega, List.getElem?_append_left hj]

theorem slice_sound {t e : TypeId} {x v : V} {val : Value} {lo hi mx : Option Value} {l h m : Option Int} (hk : tk P t = .sl e) (hv : evSlice x l h m = some v) (hx : RelV P S σ st w x val)
    (he : ∀ e' ds, x = .d (.sl e' ds) → e' = e) (he2 : ∀ er k ver off len full, x = .rs er k ver off len full → er = e)
    (hl : (lo = none ∧ l = none) ∨ ∃ k n, lo = some (.int k n) ∧ l = some n) (hh : (hi = none ∧ h = none) ∨ ∃ k n, hi = some (.int k n) ∧ h = some n) (hm : (mx = none ∧ m = none) ∨ ∃ k n, mx = some (.int k n) ∧ m = some n)
    (hmh : m.isSome = true → h.isSome = true) :
    ∃ r, (Instr.sliceAt t val lo hi mx).run P w = .ok r w ∧ RelV P S σ st w v r := by
  obtain ⟨hu, _, hpos, _⟩ := tk_sl hk
  unfold evSlice at hv
  split at hv
  · rename_i e' ds
    have := he _ _ rfl; subst this
    obtain ⟨A, cap, rfl, hds⟩ := relV_sl hx
    have hcap : ds.length ≤ cap ∨ ds = [] := by rcases hds with h | ⟨b, o, css, _, _, h, _⟩ <;> simp [*]
    have hcap' : ds.length ≤ cap := by rcases hcap with h | h; · exact h
                                       · simp [h]
    simp only at hv
    split at hv
    · rename_i hc
      obtain ⟨c1, c2, c3⟩ := hc
      -- the elements shown
      have shown : ∀ cap' : Nat, (h.getD ds.length).toNat ≤ cap' → RelV P S σ st w (.d (.sl e' ((ds.take (h.getD ds.length).toNat).drop (l.getD 0).toNat))) (sliced A (l.getD 0).toNat (h.getD ds.length).toNat cap' (szOf P e')) := by
        intro cap' hle
        generalize hH : (h.getD ds.length).toNat = H at *
        generalize hL : (l.getD 0).toNat = L at *
        have hLH : L ≤ H := by omega
        have hHd : H ≤ ds.length := by omega
        have hlen : ((ds.take H).drop L).length = H - L := by simp; omega
        refine RelC.to_v ?_ rfl
        refine ⟨if cap' = L then A else A.map (·.add (L * szOf P e')), cap' - L, by rw [hlen]; rfl, ?_⟩
        by_cases hem : (ds.take H).drop L = []
        · exact .inl hem
        · refine .inr ?_
          have hLt : L < H := by
            rcases Nat.lt_or_ge L H with h | h
            · exact h
            · exact absurd (List.eq_nil_of_length_eq_zero (by rw [hlen]; omega)) hem
          rcases hds with hds | ⟨b, o, css, rfl, hb, hcc, hcs, hat, hf⟩
          · subst hds; simp at hHd; omega
          · have hcl := fls_length hf
            refine ⟨b, o + L * szOf P e', (css.take H).drop L, ?_, hb, by rw [hlen]; omega, fun c hc => hcs c (List.mem_of_mem_take (List.mem_of_mem_drop hc)), drop_take_cells hat hcs (by omega) (by omega), fls_drop _ (fls_take _ hf)⟩
            rw [if_neg (by omega)]
            simp only [Option.map_some, add_none]
      split at hv
      · cases hv
        rcases hm with ⟨rfl, _⟩ | ⟨_, _, _, hm⟩
        · exact ⟨_, run_slice_ints hu hpos A ds.length cap lo hi none l h none hl hh (.inl ⟨rfl, rfl⟩) c1 c2 (by omega) (by simp) w, by simpa using shown cap (by omega)⟩
        · cases hm
      · rename_i q
        split at hv
        · rename_i hq
          have hrun := run_slice_ints hu hpos A ds.length cap lo hi mx l h (some q) hl hh hm c1 c2 (by omega) (fun q' hq' => by cases hq'; exact ⟨hmh rfl, hq.1, by omega⟩) w
          refine ⟨_, hrun, ?_⟩
          simp only [Option.getD_some] at hrun ⊢
          split at hv
          · rename_i hq0
            cases hv
            subst hq0
            have h0 : (h.getD ds.length).toNat = 0 := by omega
            have l0 : (l.getD 0).toNat = 0 := by omega
            rw [h0, l0]
            exact RelC.to_v ⟨A, by simp [sliced]⟩ rfl
          · cases hv
            exact shown q.toNat (by omega)
        · cases hv
    · cases hv
  · rename_i er k ver off len full
    have he' := he2 _ _ _ _ _ _ rfl
    obtain ⟨A, c, rfl, hlc, hA, hver, hfr⟩ := relV_rs hx
    simp only at hv
    split at hv
    · rename_i hc
      obtain ⟨c1, c2, c3⟩ := hc
      have shown : ∀ (cap' : Nat) (f' : Bool), (h.getD len).toNat ≤ cap' → cap' ≤ c → (f' = true → full = true ∧ cap' = c) → RelV P S σ st w (.rs er k ver (off + (l.getD 0).toNat) ((h.getD len).toNat - (l.getD 0).toNat) f') (sliced A (l.getD 0).toNat (h.getD len).toNat cap' (szOf P e)) := by
        intro cap' f' hle hcc hf'
        generalize hH : (h.getD len).toNat = H at *
        generalize hL : (l.getD 0).toNat = L at *
        have hLH : L ≤ H := by omega
        refine RelC.to_v ?_ rfl
        refine ⟨if cap' = L then A else A.map (·.add (L * szOf P e)), cap' - L, rfl, by omega, ?_, hver, ?_⟩
        · intro hpos'
          obtain ⟨a, ha⟩ := hA (by omega)
          subst ha
          split <;> exact ⟨_, rfl⟩
        · intro hv1 hv2
          obtain ⟨g0, gp, g1, g2⟩ := hfr hv1 hv2
          have hee := g0.trans he'
          refine ⟨g0, gp, fun hn => ?_, fun b cap hs => ?_⟩
          · obtain ⟨rfl, rfl⟩ := g1 hn
            exact ⟨by omega, by omega⟩
          · obtain ⟨q1, q2, q3⟩ := g2 b cap hs
            refine ⟨?_, by omega, fun hf => ?_⟩
            · by_cases hcl : cap' = L
              · exact .inl (by omega)
              · rcases q1 with q1 | rfl
                · exact .inl (by omega)
                · right
                  rw [if_neg hcl]
                  simp only [Option.map_some, add_none, hee]
                  congr 2
                  rw [Nat.add_mul]
            · obtain ⟨f1, f2⟩ := hf' hf
              have := q3 f1
              omega
      split at hv
      · cases hv
        rcases hm with ⟨rfl, _⟩ | ⟨_, _, _, hm⟩
        · exact ⟨_, run_slice_ints hu hpos A len c lo hi none l h none hl hh (.inl ⟨rfl, rfl⟩) c1 c2 (by omega) (by simp) w, by simpa using shown c full (by omega) (Nat.le_refl _) (fun h => ⟨h, rfl⟩)⟩
        · cases hm
      · rename_i q
        split at hv
        · rename_i hq
          cases hv
          exact ⟨_, run_slice_ints hu hpos A len c lo hi mx l h (some q) hl hh hm c1 c2 (by omega) (fun q' hq' => by cases hq'; exact ⟨hmh rfl, hq.1, by omega⟩) w, by simpa using shown q.toNat false (by omega) (by omega) (by simp)⟩
        · cases hv
    · cases hv
  · cases hv
end
end Go.Ev
end
section
set_option linter.unusedVariables false
set_option linter.unusedSimpArgs false
set_option linter.unusedSectionVars false
namespace Go.Ev
open Go.RowKit

section
variable {P : Program} {S : Nat → Prop} {σ : Sig} {st : Store} {w : World} {env : List V} {a : Act}

theorem run_indexAt_ok {t e : TypeId} (hu : P.underlying t = some (.slice e)) (hpos : 0 < szOf P e) (A : Addr) (len cap : Nat) (k : IntKind) (i : Int) (h0 : 0 ≤ i) (h1 : i < len) (w : World) :
    (Instr.indexAt t (.slice (some A) len cap) (.int k i)).run P w = .ok (.pointer (some (A.add (i.toNat * szOf P e)))) w := by
  simp [Instr.indexAt, run_underlying hu, asIntOf, h0, h1, run_sizeOf_pos hpos]
theorem run_indexAt_arr {t e : TypeId} {m : Nat} (hu : P.underlying t = some (.array m e)) (hpos : 0 < szOf P e) (A : Addr) (k : IntKind) (i : Int) (h0 : 0 ≤ i) (h1 : i < m) (w : World) :
    (Instr.indexAt t (.pointer (some A)) (.int k i)).run P w = .ok (.pointer (some (A.add (i.toNat * szOf P e)))) w := by
  simp [Instr.indexAt, run_underlying hu, asIntOf, h0, h1, run_sizeOf_pos hpos, Instr.sureAddr]

theorem relV_p {k : Key} {ver i : Nat} {path : List (TypeId × Nat)} {val : Value} (h : RelV P S σ st w (.p k ver i path) val) : ∃ A, val = .pointer (some A) ∧ ver ≤ (st k).ver ∧ (ver = (st k).ver → (st k).live = true →
      0 < szOf P (st k).e ∧ ∃ b cap off, σ k = some (b, cap) ∧ pathOff P path = some off ∧ A = ⟨b, i * szOf P (st k).e + off, none⟩) := by
  obtain ⟨A, h1, h2⟩ := relV_one h rfl (by simp) (by simp)
  simp at h1
  exact ⟨A, h1, h2⟩
theorem relV_dp {x : D} {val : Value} (h : RelV P S σ st w (.d (.ptr x)) val) : ∃ (b o : Nat) (xs : List Value), val = .pointer (some ⟨b, o, none⟩) ∧ S b ∧ cellsAt w b o xs ∧ Fl P S w x xs := by
  obtain ⟨b, o, xs, h1, h2⟩ := relV_one h rfl (by simp) (by simp)
  simp at h1
  exact ⟨b, o, xs, h1, h2⟩
theorem relV_aggD {t : TypeId} {ds : List D} {val : Value} (h : RelV P S σ st w (.d (.agg t ds)) val) : ∃ css : List (List Value), val = .agg css.flatten.toArray ∧ comps P t = some (css.map List.length) ∧ Fl.fls P S w ds css := by
  rcases h with h | ⟨_, cs, rfl, css, rfl, h2, h3⟩ | ⟨h, _⟩
  · cases h
  · exact ⟨css, rfl, h2, h3⟩
  · cases h
theorem relV_agg {t : TypeId} {vs : List V} {val : Value} (h : RelV P S σ st w (.agg t vs) val) : ∃ css : List (List Value), val = .agg css.flatten.toArray ∧ comps P t = some (css.map List.length) ∧ RelC.rels P S σ st w vs css := by
  rcases h with h | ⟨_, cs, rfl, css, rfl, h2, h3⟩ | ⟨h, _⟩
  · cases h
  · exact ⟨css, rfl, h2, h3⟩
  · cases h

theorem fieldAddr_sound {t : TypeId} {f n : Nat} {x : Operand} {v : V} (hrel : EnvRel P S σ st w env a.tmps) (h : evPure P (evalT P env) n (.fieldAddr t x f) = some v) :
    ∃ val, (Instr.fieldAt t (a.eval x) f).run P w = .ok val w ∧ RelV P S σ st w v val := by
  have hx := evalT_rel hrel 0 x
  simp only [evPure] at h
  split at h
  · rename_i m k ver i path hk hv
    rw [hv] at hx
    split at h
    · rename_i hf
      cases h
      obtain ⟨A, hA, hver, hfr⟩ := relV_p hx
      rw [hA]
      obtain ⟨l, hl, hlm, hrun⟩ := run_fieldAt (A := A) hk hf w
      refine ⟨_, hrun, RelC.to_v ⟨_, rfl, hver, fun h1 h2 => ?_⟩ rfl⟩
      obtain ⟨gp, b, cap, off, g1, g2, rfl⟩ := hfr h1 h2
      exact ⟨gp, b, cap, off + (l.take f).sum, g1, pathOff_append g2 hl (by omega), by rw [add_none]; congr 1; omega⟩
    · cases h
  · rename_i m t' ds hk hv
    rw [hv] at hx
    split at h
    · rename_i ht
      subst ht
      split at h
      · rename_i y hy
        cases h
        obtain ⟨b, o, xs, hA, hb, hat, css, rfl, hc, hf⟩ := relV_dp hx
        rw [hA]
        rw [nth_eq] at hy
        obtain ⟨c, hcf, hfl⟩ := fls_at hf hy
        have hlt : f < m := by
          obtain ⟨⟨l, hl, hlm⟩, _⟩ := tk_agg hk
          rw [hc] at hl; cases hl
          have := (List.getElem?_eq_some_iff.1 hcf).1
          simpa [← hlm] using this
        obtain ⟨l, hl, hlm, hrun⟩ := run_fieldAt (A := ⟨b, o, none⟩) hk hlt w
        rw [hc] at hl; cases hl
        obtain ⟨g1, g2⟩ := flatten_at hcf
        refine ⟨_, hrun, RelC.to_v ⟨b, o + ((css.map List.length).take f).sum, c, by rw [add_none], hb, hat.part g1 g2, hfl⟩ rfl⟩
      · cases h
    · cases h
  · cases h

theorem indexAddr_sound {t : TypeId} {n : Nat} {x i : Operand} {v : V} (hrel : EnvRel P S σ st w env a.tmps) (h : evPure P (evalT P env) n (.indexAddr t x i) = some v) :
    ∃ val, (Instr.indexAt t (a.eval x) (a.eval i)).run P w = .ok val w ∧ RelV P S σ st w v val := by
  have hx := evalT_rel hrel t x
  have hi := evalT_rel hrel 0 i
  simp only [evPure] at h
  split at h
  · rename_i e e' ds k q hk hv1 hv2
    rw [hv1] at hx; rw [hv2] at hi
    rw [relV_int hi]
    split at h
    · rename_i hc
      obtain ⟨rfl, h0, h1⟩ := hc
      obtain ⟨hu, _, hpos, _⟩ := tk_sl hk
      obtain ⟨A, cap, hA, hds⟩ := relV_sl hx
      rw [hA]
      simp only [Option.map_eq_some_iff] at h
      obtain ⟨y, hy, rfl⟩ := h
      rcases hds with rfl | ⟨b, o, css, rfl, hb, hcc, hcs, hat, hf⟩
      · simp at hy
      · obtain ⟨c, hcf, hfl⟩ := fls_at hf hy
        obtain ⟨g1, g2⟩ := flatten_at hcf
        rw [take_sum_const hcs (by have := (List.getElem?_eq_some_iff.1 hcf).1; omega)] at g1 g2
        refine ⟨_, run_indexAt_ok hu hpos ⟨b, o, none⟩ _ _ _ q h0 h1 w, RelC.to_v ⟨b, o + q.toNat * szOf P e, c, by rw [add_none], hb, hat.part g1 g2, hfl⟩ rfl⟩
    · cases h
  · rename_i e er k ver off len full kk q hk hv1 hv2
    rw [hv1] at hx; rw [hv2] at hi
    rw [relV_int hi]
    split at h
    · rename_i hc
      obtain ⟨rfl, h0, h1⟩ := hc
      cases h
      obtain ⟨hu, _, hpos, _⟩ := tk_sl hk
      obtain ⟨A, c, hA, hlc, hsome, hver, hfr⟩ := relV_rs hx
      obtain ⟨A', rfl⟩ := hsome (by omega)
      rw [hA]
      refine ⟨_, run_indexAt_ok hu hpos A' _ _ _ q h0 h1 w, RelC.to_v ⟨_, rfl, hver, fun v1 v2 => ?_⟩ rfl⟩
      obtain ⟨g0, gp, g1, g2⟩ := hfr v1 v2
      cases hs : σ k with
      | none => have := (g1 hs).2; omega
      | some bc =>
        obtain ⟨b, cap⟩ := bc
        obtain ⟨q1, q2, _⟩ := g2 b cap hs
        rcases q1 with q1 | q1
        · omega
        · cases q1
          exact ⟨by rw [g0]; exact gp, b, cap, 0, rfl, rfl, by rw [add_none, g0, Nat.add_mul]; rfl⟩
    · cases h
  · rename_i m k ver j path kk q hk hv1 hv2
    rw [hv1] at hx; rw [hv2] at hi
    rw [relV_int hi]
    split at h
    · rename_i hc
      obtain ⟨h0, h1⟩ := hc
      cases h
      obtain ⟨A, hA, hver, hfr⟩ := relV_p hx
      rw [hA]
      obtain ⟨⟨l, hl, hlm⟩, ⟨fs, hu, hr⟩ | ⟨m', e, hu, _⟩⟩ := tk_agg hk
      · cases hr
      · obtain ⟨rfl, hpos, h2, _⟩ := comps_array hu hl
        simp at hlm
        subst hlm
        refine ⟨_, run_indexAt_arr hu hpos A _ q h0 h1 w, RelC.to_v ⟨_, rfl, hver, fun v1 v2 => ?_⟩ rfl⟩
        obtain ⟨gp, b, cap, off, g1, g2, rfl⟩ := hfr v1 v2
        refine ⟨gp, b, cap, off + ((List.replicate m' (szOf P e)).take q.toNat).sum, g1, pathOff_append g2 hl (by simp; omega), ?_⟩
        rw [add_none, List.take_replicate, sum_replicate', Nat.min_eq_left (by omega)]
        congr 1; omega
    · cases h
  · cases h

theorem capsOk_cons {v : V} {vs : List V} (h : capsOk (v :: vs) = true) : capsOk vs = true ∧ v.isAgg = false ∧ v ≠ .und ∧ ∀ us, v ≠ .tup us := by
  cases v with
  | p k ver i path => exact ⟨by simpa [capsOk] using h, rfl, by simp, by simp⟩
  | d x =>
    cases x with
    | ptr y => exact ⟨by simpa [capsOk] using h, rfl, by simp, by simp⟩
    | _ => simp [capsOk] at h
  | _ => simp [capsOk] at h
theorem capsOk_rel : ∀ {vs : List V} {vals : List Value}, capsOk vs = true → (∀ x ∈ vs.zip vals, RelV P S σ st w x.1 x.2) → vs.length = vals.length → RelC.rels P S σ st w vs (vals.map fun v => [v])
  | [], [], _, _, _ => rfl
  | [], _ :: _, _, _, h => by simp at h
  | v :: vs, [], _, _, h => by simp at h
  | v :: vs, u :: us, hc, hr, hl => by
    obtain ⟨c1, c2, c3, c4⟩ := capsOk_cons hc
    refine ⟨[u], us.map (fun v => [v]), rfl, ?_, capsOk_rel c1 (fun x hx => hr x (by simp [hx])) (by simpa using hl)⟩
    exact relV_one (hr (v, u) (by simp)) c2 c3 c4

/-- Least and greatest. -/
theorem foldI_min {k : IntKind} : ∀ {vs : List V} {vals : List Value} {p : Int} {v : V}, foldI minI k vs (some p) = some v → (∀ x ∈ vs.zip vals, RelV P S σ st w x.1 x.2) → vs.length = vals.length →
    ∃ r, (vals.foldlM Builtin.min2 (.int k p) : Sem Value).run P w = .ok r w ∧ RelV P S σ st w v r
  | [], [], p, v, h, _, _ => by simp only [foldI, Option.some.injEq] at h; subst h; exact ⟨_, rfl, int_rel _ _⟩
  | [], _ :: _, _, _, _, _, h => by simp at h
  | _ :: _, [], _, _, _, _, h => by simp at h
  | x :: vs, u :: us, p, v, h, hr, hl => by
    cases x with
    | d y =>
      cases y with
      | int k' q =>
        simp only [foldI] at h
        split at h
        · rename_i hk
          subst hk
          have := relV_int (hr (.d (.int k' q), u) (by simp)); subst this
          obtain ⟨r, h1, h2⟩ := foldI_min (vals := us) h (fun x hx => hr x (by simp [hx])) (by simpa using hl)
          refine ⟨r, ?_, h2⟩
          simp only [List.foldlM_cons, Sem.run_bind, Builtin.min2, Sem.run_pure, Result.andThen_ok]
          exact h1
        · cases h
      | _ => simp [foldI] at h
    | _ => simp [foldI] at h
theorem foldI_max {k : IntKind} : ∀ {vs : List V} {vals : List Value} {p : Int} {v : V}, foldI maxI k vs (some p) = some v → (∀ x ∈ vs.zip vals, RelV P S σ st w x.1 x.2) → vs.length = vals.length →
    ∃ r, (vals.foldlM Builtin.max2 (.int k p) : Sem Value).run P w = .ok r w ∧ RelV P S σ st w v r
  | [], [], p, v, h, _, _ => by simp only [foldI, Option.some.injEq] at h; subst h; exact ⟨_, rfl, int_rel _ _⟩
  | [], _ :: _, _, _, _, _, h => by simp at h
  | _ :: _, [], _, _, _, _, h => by simp at h
  | x :: vs, u :: us, p, v, h, hr, hl => by
    cases x with
    | d y =>
      cases y with
      | int k' q =>
        simp only [foldI] at h
        split at h
        · rename_i hk
          subst hk
          have := relV_int (hr (.d (.int k' q), u) (by simp)); subst this
          obtain ⟨r, h1, h2⟩ := foldI_max (vals := us) h (fun x hx => hr x (by simp [hx])) (by simpa using hl)
          refine ⟨r, ?_, h2⟩
          simp only [List.foldlM_cons, Sem.run_bind, Builtin.max2, Sem.run_pure, Result.andThen_ok]
          exact h1
        · cases h
      | _ => simp [foldI] at h
    | _ => simp [foldI] at h

theorem zip_swap {os : List Operand} {vs : List V} (h : ∀ x ∈ os.zip vs, RelV P S σ st w x.2 (a.eval x.1)) : ∀ x ∈ vs.zip (os.map a.eval), RelV P S σ st w x.1 x.2 := by
  induction os generalizing vs with
  | nil => simp
  | cons o os ih =>
    cases vs with
    | nil => simp
    | cons v vs =>
      intro x hx
      simp only [List.map_cons, List.zip_cons_cons, List.mem_cons] at hx
      rcases hx with rfl | hx
      · exact h (o, v) (by simp)
      · exact ih (fun y hy => h y (by simp [hy])) x hx

theorem builtin_sound {b : Builtin} {ts : List TypeId} {xs : List V} {vals : List Value} {ty : TypeId} {cs : Array Bool} {v : V} (h : evPureB P b ts xs = some v) (hr : ∀ x ∈ xs.zip vals, RelV P S σ st w x.1 x.2) (hl : xs.length = vals.length) :
    ∃ r, (builtin b ts.toArray ty cs vals.toArray).run P w = .ok (.value r) w ∧ RelV P S σ st w v r := by
  unfold evPureB at h
  split at h
  · split at h
    · rename_i s t
      split at h
      · rename_i hk
        cases h
        obtain ⟨u, rfl⟩ : ∃ u, vals = [u] := by
          cases vals with
          | nil => simp at hl
          | cons u us => cases us with
            | nil => exact ⟨u, rfl⟩
            | cons _ _ => simp at hl
        have := relV_str (hr (.d (.str s), u) (by simp)); subst this
        refine ⟨.int .i64 s.size, ?_, int_rel _ _⟩
        simp [builtin, Builtin.len_, run_underlying (ek_str hk), goInt]
      · cases h
    · rename_i x t _
      split at h
      · rename_i e n hk hn
        cases h
        obtain ⟨hu, _⟩ := tk_sl hk
        obtain ⟨u, rfl⟩ : ∃ u, vals = [u] := by
          cases vals with
          | nil => simp at hl
          | cons u us => cases us with
            | nil => exact ⟨u, rfl⟩
            | cons _ _ => simp at hl
        have hx := hr (x, u) (by simp)
        have : ∃ A c, u = .slice A n c := by
          unfold lenV at hn
          split at hn
          · cases hn; obtain ⟨A, c, h, _⟩ := relV_sl hx; exact ⟨A, c, h⟩
          · cases hn; obtain ⟨A, c, h, _⟩ := relV_rs hx; exact ⟨A, c, h⟩
          · cases hn; obtain ⟨A, h⟩ := relV_nils hx; exact ⟨A, 0, h⟩
          · cases hn
        obtain ⟨A, c, rfl⟩ := this
        refine ⟨.int .i64 n, ?_, int_rel _ _⟩
        simp [builtin, Builtin.len_, run_underlying hu, goInt]
      · cases h
    · cases h
  · split at h
    · rename_i k p r
      cases vals with
      | nil => simp at hl
      | cons u us =>
        have := relV_int (hr (.d (.int k p), u) (by simp)); subst this
        obtain ⟨r', h1, h2⟩ := foldI_min (vals := us) h (fun x hx => hr x (by simp [hx])) (by simpa using hl)
        refine ⟨r', ?_, h2⟩
        simp only [builtin, Builtin.min_, Sem.run_bind, h1, Result.andThen_ok, Sem.run_pure]
    · cases h
  · split at h
    · rename_i k p r
      cases vals with
      | nil => simp at hl
      | cons u us =>
        have := relV_int (hr (.d (.int k p), u) (by simp)); subst this
        obtain ⟨r', h1, h2⟩ := foldI_max (vals := us) h (fun x hx => hr x (by simp [hx])) (by simpa using hl)
        refine ⟨r', ?_, h2⟩
        simp only [builtin, Builtin.max_, Sem.run_bind, h1, Result.andThen_ok, Sem.run_pure]
    · cases h
  · cases h

theorem field_ok {t : TypeId} {f n : Nat} {x : Operand} {v : V} (hrel : EnvRel P S σ st w env a.tmps) (h : evPure P (evalT P env) n (.field t x f) = some v) :
    ∃ val, (Instr.field t (a.eval x) f).run P w = .ok val w ∧ RelV P S σ st w v val := by
  have hx := evalT_rel hrel t x
  simp only [evPure] at h
  split at h
  · rename_i e m he hk
    split at h
    · rename_i t' ds hv
      rw [hv] at hx
      split at h
      · rename_i ht
        subst ht
        split at h
        · rename_i y hy
          split at h
          · rename_i hty
            cases h
            obtain ⟨css, hA, hc, hf⟩ := relV_aggD hx
            rw [hA]
            rw [nth_eq] at hy
            obtain ⟨c, hcf, hfl⟩ := fls_at hf hy
            have hrc : RelC P S σ st w (.d y) c := hfl
            exact ⟨_, field_sound hk he hty hc hcf hrc, (valOf_rel hrc).to_v⟩
          · cases h
        · cases h
      · cases h
    · rename_i t' vs hv
      rw [hv] at hx
      split at h
      · rename_i ht
        subst ht
        split at h
        · rename_i y hy
          split at h
          · rename_i hty
            cases h
            obtain ⟨css, hA, hc, hf⟩ := relV_agg hx
            rw [hA]
            rw [nth_eq] at hy
            obtain ⟨c, hcf, hrc⟩ := rels_at hf hy
            exact ⟨_, field_sound hk he hty hc hcf hrc, (valOf_rel hrc).to_v⟩
          · cases h
        · cases h
      · cases h
    · cases h
  · cases h

theorem strAt_ok {t : TypeId} {s : ByteArray} {k : IntKind} {n : Int} {v : V} (hu : P.underlying t = some .string) (h : strAt s n = some v) : ∃ val, (Instr.index t (.string s) (.int k n)).run P w = .ok val w ∧ RelV P S σ st w v val := by
  unfold strAt at h
  split at h
  · rename_i b hb
    cases h
    refine ⟨.int .u8 b.toNat, ?_, int_rel _ _⟩
    simp [Instr.index, asIntOf, run_underlying hu, hb]
  · cases h
theorem arr_at {t e : TypeId} {m : Nat} {q : Int} {css : List (List Value)} {c : List Value} {y : V} {k : IntKind} (hk : tk P t = .agg m true) (he : compT P t 0 = some e) (h0 : 0 ≤ q) (h1 : q < m) (hty : hasT P e y = true)
    (hcomp : comps P t = some (css.map List.length)) (hc : css[q.toNat]? = some c) (hy : RelC P S σ st w y c) : (Instr.index t (.agg css.flatten.toArray) (.int k q)).run P w = .ok (valOf y c) w := by
  obtain ⟨⟨l, hl, hn⟩, ⟨fs, hu, hr⟩ | ⟨m', e', hu, _⟩⟩ := tk_agg hk
  · cases hr
  · obtain ⟨rfl, hpos, h2, _⟩ := comps_array hu hl
    simp at hn
    subst hn
    rw [hl] at hcomp
    have hcomp := Option.some.inj hcomp
    have hte : e' = e := by
      unfold compT compTs at he
      rw [hu, nth_eq] at he
      simp [List.getElem?_replicate] at he
      exact he.2
    subst hte
    obtain ⟨g1, g2⟩ := flatten_at hc
    rw [← hcomp, List.take_replicate, sum_replicate', Nat.min_eq_left (by omega)] at g1 g2
    have hrun := run_part hty hy g1 g2
    simp only [Instr.index, asIntOf, Sem.run_bind, Sem.run_pure, Result.andThen_ok, run_underlying hu, h0, h1, and_self, if_true, run_sizeOf_pos hpos, hrun]
theorem index_ok {t : TypeId} {n : Nat} {x i : Operand} {v : V} (hrel : EnvRel P S σ st w env a.tmps) (h : evPure P (evalT P env) n (.index t x i) = some v) :
    ∃ val, (Instr.index t (a.eval x) (a.eval i)).run P w = .ok val w ∧ RelV P S σ st w v val := by
  have hx := evalT_rel hrel t x
  have hi := evalT_rel hrel 0 i
  simp only [evPure] at h
  split at h
  · rename_i s k q hv1 hv2
    rw [hv1] at hx; rw [hv2] at hi
    rw [relV_int hi, relV_str hx]
    split at h
    · rename_i hk
      exact strAt_ok (ek_str hk) h
    · cases h
  · rename_i t' ds k q hv1 hv2
    rw [hv1] at hx; rw [hv2] at hi
    rw [relV_int hi]
    split at h
    · rename_i m e hk he
      split at h
      · rename_i hc
        obtain ⟨rfl, h0, h1⟩ := hc
        split at h
        · rename_i y hy
          split at h
          · rename_i hty
            cases h
            obtain ⟨css, hA, hcomp, hf⟩ := relV_aggD hx
            rw [hA]
            obtain ⟨c, hcf, hfl⟩ := fls_at hf hy
            have hrc : RelC P S σ st w (.d y) c := hfl
            exact ⟨_, arr_at hk he h0 h1 hty hcomp hcf hrc, (valOf_rel hrc).to_v⟩
          · cases h
        · cases h
      · cases h
    · cases h
  · rename_i t' vs k q hv1 hv2
    rw [hv1] at hx; rw [hv2] at hi
    rw [relV_int hi]
    split at h
    · rename_i m e hk he
      split at h
      · rename_i hc
        obtain ⟨rfl, h0, h1⟩ := hc
        split at h
        · rename_i y hy
          split at h
          · rename_i hty
            cases h
            obtain ⟨css, hA, hcomp, hf⟩ := relV_agg hx
            rw [hA]
            obtain ⟨c, hcf, hrc⟩ := rels_at hf hy
            exact ⟨_, arr_at hk he h0 h1 hty hcomp hcf hrc, (valOf_rel hrc).to_v⟩
          · cases h
        · cases h
      · cases h
    · cases h
  · cases h
theorem strCut_ok {t : TypeId} {s : ByteArray} {lo hi mx : Option Value} {l h m : Option Int} {v : V} (hu : P.underlying t = some .string) (hc : strCut s l h m = some v)
    (hl : (lo = none ∧ l = none) ∨ ∃ k n, lo = some (.int k n) ∧ l = some n) (hh : (hi = none ∧ h = none) ∨ ∃ k n, hi = some (.int k n) ∧ h = some n) (hm : (mx = none ∧ m = none) ∨ ∃ k n, mx = some (.int k n) ∧ m = some n) :
    ∃ val, (Instr.sliceAt t (.string s) lo hi mx).run P w = .ok val w ∧ RelV P S σ st w v val := by
  unfold strCut at hc
  split at hc
  · cases hc
  · rcases hm with ⟨rfl, _⟩ | ⟨_, _, _, h⟩
    · split at hc
      · rename_i hb
        obtain ⟨b1, b2, b3⟩ := hb
        cases hc
        refine ⟨_, ?_, str_rel _⟩
        rcases hl with ⟨rfl, rfl⟩ | ⟨kl, nl, rfl, rfl⟩ <;> rcases hh with ⟨rfl, rfl⟩ | ⟨kh, nh, rfl, rfl⟩
        · simp [Instr.sliceAt, Instr.slice, run_underlying hu, Instr.sliceBounds]
        · simp only [Option.getD] at b1 b2 b3
          simp [Instr.sliceAt, Instr.slice, run_underlying hu, Instr.sliceBounds, Instr.sliceBound, asIntOf, b2, b3]
        · simp only [Option.getD] at b1 b2 b3
          simp [Instr.sliceAt, Instr.slice, run_underlying hu, Instr.sliceBounds, Instr.sliceBound, asIntOf, b1, b2]
        · simp only [Option.getD] at b1 b2 b3
          have e : (nh.toNat : Int) = nh := by omega
          have b4 : 0 ≤ nh := by omega
          simp [Instr.sliceAt, Instr.slice, run_underlying hu, Instr.sliceBounds, Instr.sliceBound, asIntOf, b1, b2, b3, e, b4]
      · cases hc
    · cases h
theorem slice_ok {t : TypeId} {n : Nat} {x : Operand} {lo hi mx : Option Operand} {v : V} (hrel : EnvRel P S σ st w env a.tmps) (h : evPure P (evalT P env) n (.slice t x lo hi mx) = some v) :
    ∃ val, (Instr.sliceAt t (a.eval x) (lo.map a.eval) (hi.map a.eval) (mx.map a.eval)).run P w = .ok val w ∧ RelV P S σ st w v val := by
  have hx := evalT_rel hrel t x
  simp only [evPure] at h
  split at h
  · rename_i e l q m hk hl hq hm
    split at h
    · rename_i hc
      refine slice_sound hk h hx ?_ ?_ (optI_rel hrel hl) (optI_rel hrel hq) (optI_rel hrel hm) hc.2
      · intro e' ds he'
        have := hc.1
        rw [he'] at this
        simpa [elemT] using this
      · intro er k ver off len full he'
        have := hc.1
        rw [he'] at this
        simpa [elemT] using this
    · cases h
  · rename_i l q m hk hl hq hm
    split at h
    · rename_i hks
      split at h
      · rename_i s hv
        rw [hv] at hx
        rw [relV_str hx]
        exact strCut_ok (ek_str hks) h (optI_rel hrel hl) (optI_rel hrel hq) (optI_rel hrel hm)
      · cases h
    · cases h
  · cases h

theorem extract_ok {n i : Nat} {x : Operand} {v : V} (hrel : EnvRel P S σ st w env a.tmps) (h : evPure P (evalT P env) n (.extract x i) = some v) :
    ∃ val, (Instr.extract (a.eval x) i).run P w = .ok val w ∧ RelV P S σ st w v val := by
  have hx := evalT_rel hrel 0 x
  simp only [evPure] at h
  split at h
  · rename_i vs hv
    rw [hv] at hx
    obtain ⟨vals, hA, hr⟩ := hx
    rw [hA]
    rw [nth_eq] at h
    obtain ⟨u, hu, hru⟩ := relNs_at hr h
    exact ⟨u, by simp [Instr.extract, hu], hru.to_v⟩
  · cases h
end
end Go.Ev
end
section
set_option linter.unusedVariables false
set_option linter.unusedSimpArgs false
set_option linter.unusedSectionVars false
namespace Go.Ev
open Go.RowKit

section
variable {P : Program} {S : Nat → Prop} {σ : Sig} {st : Store} {w : World}

/-- A zero stands for its cells, whatever memory holds. -/
def ZOk (P : Program) (S : Nat → Prop) (σ : Sig) (st : Store) (w : World) (t : TypeId) (cs : List Value) (v : V) : Prop := RelC P S σ st w v cs ∧ hasT P t v = true ∧ cs.length = szOf P t
theorem zeroOne_rel {x : Value} {v : V} (h : zeroOne x = some v) : RelC P S σ st w v [x] ∧ v.isAgg = false ∧ (∃ d, v = .d d ∧ ∀ t ds, d ≠ .agg t ds) := by
  cases x <;> first
    | (simp [zeroOne] at h; subst h; exact ⟨rfl, rfl, _, rfl, fun _ _ h => by cases h⟩)
    | (rename_i A; cases A <;> simp [zeroOne] at h; subst h; exact ⟨rfl, rfl, _, rfl, fun _ _ h => by cases h⟩)
    | simp [zeroOne] at h
theorem zeroGo_sound {z : TypeId → List Value → Option V} (hz : ∀ e cs v, z e cs = some v → ZOk P S σ st w e cs v) {t : TypeId} : ∀ {sz : List Nat} {i : Nat} {cs : List Value} {vs : List V}, zeroGo P z t i sz cs = some vs →
    ∃ css, css.flatten = cs ∧ css.map List.length = sz ∧ RelC.rels P S σ st w vs css
  | [], i, [], vs, h => by simp [zeroGo] at h; subst h; exact ⟨[], rfl, rfl, rfl⟩
  | [], i, _ :: _, vs, h => by simp [zeroGo] at h
  | s :: sz, i, cs, vs, h => by
    unfold zeroGo at h
    split at h
    · rename_i hs
      split at h
      · rename_i e he
        split at h
        · rename_i v r h1 h2
          split at h
          · rename_i hse
            cases h
            obtain ⟨css, g1, g2, g3⟩ := zeroGo_sound hz h2
            refine ⟨cs.take s :: css, by simp [g1], by simp [g2]; omega, ⟨_, _, rfl, (hz _ _ _ h1).1, g3⟩⟩
          · cases h
        · cases h
      · cases h
    · cases h
theorem hasT_mkAgg {t : TypeId} {vs : List V} {n : Nat} {r : Bool} (h : tk P t = .agg n r) : hasT P t (mkAgg t vs) = true := by
  unfold mkAgg
  split <;> simp [hasT, h]
theorem zeroAt_sound : ∀ (n : Nat) (t : TypeId) (cs : List Value) (v : V), zeroAt P n t cs = some v → ZOk P S σ st w t cs v
  | 0, t, cs, v, h => by simp [zeroAt] at h
  | n + 1, t, cs, v, h => by
    unfold zeroAt at h
    split at h
    · rename_i e hk
      split at h
      · cases h
        exact ⟨⟨none, rfl⟩, by simp [hasT, hk], by simp [(tk_sl hk).2.1]⟩
      · cases h
    · rename_i hk
      split at h
      · rename_i x
        split at h
        · rename_i z hz
          cases h
          obtain ⟨h1, h2, d, rfl, h3⟩ := zeroOne_rel (P := P) (S := S) (σ := σ) (st := st) (w := w) hz
          refine ⟨h1, ?_, by simp [(tk_one hk).1]⟩
          cases d <;> first
            | exact absurd rfl (h3 _ _)
            | simp [hasT, hk]
        · split at h
          · rename_i hx
            cases h
            exact ⟨⟨x, rfl, hx⟩, by simp [hasT, hk], by simp [(tk_one hk).1]⟩
          · cases h
      · cases h
    · rename_i m r hk
      split at h
      · rename_i sz hsz
        simp only [Option.map_eq_some_iff] at h
        obtain ⟨vs, h1, rfl⟩ := h
        obtain ⟨css, rfl, g2, g3⟩ := zeroGo_sound (zeroAt_sound n) h1
        refine ⟨mkAgg_rel (by rw [g2]; exact hsz) g3, hasT_mkAgg hk, ?_⟩
        rw [length_flatten', g2, comps_sum hsz]
      · cases h
    · cases h
theorem zeroV_sound {t : TypeId} {v : V} (h : zeroV P t = some v) : ∃ i z, P.info? t = some i ∧ i.zero = some z ∧ ZOk P S σ st w t z.cells.toList v := by
  unfold zeroV at h
  split at h
  · rename_i z hz
    simp only [Option.bind_eq_some_iff] at hz
    obtain ⟨i, hi, hz⟩ := hz
    exact ⟨i, z, hi, hz, zeroAt_sound 9 t _ v h⟩
  · cases h

/-! ### parts put into cells -/
theorem fold_set_list (off : Nat) : ∀ (vs : List Value) (k : Nat) (cells : Array Value), off + k + vs.length ≤ cells.size →
    ((vs.zipIdx k).foldl (fun (cs : Array Value) (x : Value × Nat) => cs.setIfInBounds (off + x.2) x.1) cells).toList = cells.toList.take (off + k) ++ vs ++ cells.toList.drop (off + k + vs.length)
  | [], k, cells, h => by simp
  | v :: vs, k, cells, h => by
    simp only [List.zipIdx_cons, List.foldl_cons]
    have hlt : off + k < cells.size := by simp at h; omega
    rw [fold_set_list off vs (k + 1) _ (by simp at h ⊢; omega)]
    rw [Array.toList_setIfInBounds]
    have e1 : (cells.toList.set (off + k) v).take (off + (k + 1)) = cells.toList.take (off + k) ++ [v] := by
      apply List.ext_getElem?
      intro j
      by_cases hj : j < off + (k + 1)
      · rw [List.getElem?_take_of_lt hj]
        by_cases hj' : j < off + k
        · rw [List.getElem?_append_left (by simp; omega), List.getElem?_take_of_lt hj', List.getElem?_set_ne (by omega)]
        · have : j = off + k := by omega
          subst this
          rw [List.getElem?_append_right (by simp; omega), List.getElem?_set_self (by simpa using hlt)]
          simp [Nat.min_eq_left (Nat.le_of_lt hlt)]
      · rw [List.getElem?_eq_none (by simp; omega), List.getElem?_eq_none (by simp; omega)]
    have e2 : (cells.toList.set (off + k) v).drop (off + (k + 1) + vs.length) = cells.toList.drop (off + k + (v :: vs).length) := by
      rw [List.drop_set_of_lt (by omega)]
      congr 1; simp; omega
    rw [e1, e2]; simp
theorem fold_set (off : Nat) (vs cells : Array Value) (h : off + vs.size ≤ cells.size) :
    (vs.zipIdx.foldl (fun (cs : Array Value) (x : Value × Nat) => cs.setIfInBounds (off + x.2) x.1) cells).toList = cells.toList.take off ++ vs.toList ++ cells.toList.drop (off + vs.size) := by
  rw [← Array.foldl_toList, Array.toList_zipIdx]
  have := fold_set_list off vs.toList 0 cells (by simpa using h)
  simpa using this

theorem fill_cons (place : Nat → Option (Nat × Nat)) (cells : Array Value) (i off size : Nat) (v : Value) (rest : List (Nat × Value)) (hp : place i = some (off, size)) (hs : v.cells.size = size) (hl : off + v.cells.size ≤ cells.size) :
    Instr.fill place cells ((i, v) :: rest) = Instr.fill place (v.cells.zipIdx.foldl (fun cs (c, j) => cs.setIfInBounds (off + j) c) cells) rest := by
  simp only [Instr.fill, hp]
  rw [if_neg (by simp only [Bool.or_eq_true, decide_eq_true_eq, not_or]; exact ⟨fun h => h hs, by omega⟩)]

theorem fill_step {place : Nat → Option (Nat × Nat)} {l : List Nat} {css : List (List Value)} {cells : Array Value} {vs : List V} {i : Nat} {v : V} {val : Value} {e : TypeId} {rest : List (Nat × Value)}
    (hcells : cells.toList = css.flatten) (hmap : css.map List.length = l) (hrel : RelC.rels P S σ st w vs css) (hp : place i = some ((l.take i).sum, szOf P e)) (hi : i < vs.length) (hls : l[i]? = some (szOf P e))
    (ht : hasT P e v = true) (hv : RelV P S σ st w v val) :
    ∃ cells' css', Instr.fill place cells ((i, val) :: rest) = Instr.fill place cells' rest ∧ cells'.toList = css'.flatten ∧ css'.map List.length = l ∧ RelC.rels P S σ st w (setN vs i v) css' := by
  obtain ⟨hc, _⟩ := (hv.n (hasT_tup ht)).cells (hasT_und ht)
  have hlen := hasT_length ht hc
  have hcss := rels_length hrel
  have hil : i < css.length := by omega
  have hci : css[i]? = some css[i] := List.getElem?_eq_getElem hil
  have hcl : css[i].length = szOf P e := by
    rw [← hmap] at hls
    simp only [List.getElem?_map, hci, Option.map_some, Option.some.injEq] at hls
    exact hls
  obtain ⟨g1, g2⟩ := flatten_at hci
  rw [hmap] at g1 g2
  have hsz : cells.size = css.flatten.length := by rw [← hcells]; simp
  have hl1 : val.cells.size = szOf P e := by simpa using hlen
  refine ⟨_, css.set i val.cells.toList, fill_cons place cells i _ _ val rest hp hl1 (by omega), ?_, ?_, ?_⟩
  · have := fold_set (l.take i).sum val.cells cells (by omega)
    rw [this, hcells, flatten_set hci (by omega), hmap]
    congr 3; omega
  · rw [map_length_set hci (by omega)]; exact hmap
  · rw [setN_eq]; exact rels_set hrel hc

theorem setParts_sound {ρ : TypeId → Operand → V} {t : TypeId} {l : List Nat} {place : Nat → Option (Nat × Nat)} {a : Act} (hρ : ∀ t o, RelV P S σ st w (ρ t o) (a.eval o)) (hcomp : comps P t = some l)
    (hp : ∀ i e, compT P t i = some e → i < l.length → place i = some ((l.take i).sum, szOf P e)) : ∀ {parts : List (Nat × Operand)} {vs vs' : List V} {css : List (List Value)} {cells : Array Value}, setParts P ρ t vs parts = some vs' →
    cells.toList = css.flatten → css.map List.length = l → RelC.rels P S σ st w vs css →
    ∃ cells' css', Instr.fill place cells (parts.map fun x => (x.1, a.eval x.2)) = some cells' ∧ cells'.toList = css'.flatten ∧ css'.map List.length = l ∧ RelC.rels P S σ st w vs' css'
  | [], vs, vs', css, cells, h, h1, h2, h3 => by
    simp only [setParts, Option.some.injEq] at h; subst h
    exact ⟨cells, css, rfl, h1, h2, h3⟩
  | (i, o) :: r, vs, vs', css, cells, h, h1, h2, h3 => by
    unfold setParts at h
    split at h
    · rename_i e he
      split at h
      · rename_i hc
        have hlen := rels_length h3
        have hil : i < l.length := by rw [← h2]; simp; omega
        obtain ⟨cells1, css1, g1, g2, g3, g4⟩ := fill_step (rest := r.map fun x => (x.1, a.eval x.2)) h1 h2 h3 (hp i e he hil) hc.1 (comps_at hcomp he hil) hc.2 (hρ e o)
        obtain ⟨cells2, css2, f1, f2, f3, f4⟩ := setParts_sound hρ hcomp hp h g2 g3 g4
        exact ⟨cells2, css2, by simp only [List.map_cons]; rw [g1]; exact f1, f2, f3, f4⟩
      · cases h
    · cases h
theorem setElems_sound {ρ : TypeId → Operand → V} {e : TypeId} {n : Nat} {a : Act} (hρ : ∀ t o, RelV P S σ st w (ρ t o) (a.eval o)) : ∀ {parts : List (Nat × Operand)} {vs vs' : List V} {css : List (List Value)} {cells : Array Value}, setElems P ρ e vs parts = some vs' →
    cells.toList = css.flatten → css.map List.length = List.replicate n (szOf P e) → RelC.rels P S σ st w vs css →
    ∃ cells' css', Instr.fill (fun i => some (i * szOf P e, szOf P e)) cells (parts.map fun x => (x.1, a.eval x.2)) = some cells' ∧ cells'.toList = css'.flatten ∧ css'.map List.length = List.replicate n (szOf P e) ∧ RelC.rels P S σ st w vs' css'
  | [], vs, vs', css, cells, h, h1, h2, h3 => by
    simp only [setElems, Option.some.injEq] at h; subst h
    exact ⟨cells, css, rfl, h1, h2, h3⟩
  | (i, o) :: r, vs, vs', css, cells, h, h1, h2, h3 => by
    unfold setElems at h
    split at h
    · rename_i hc
      have hlen := rels_length h3
      have hn : css.length = n := by have := congrArg List.length h2; simpa using this
      have hil : i < n := by omega
      obtain ⟨cells1, css1, g1, g2, g3, g4⟩ := fill_step (place := fun i => some (i * szOf P e, szOf P e)) (rest := r.map fun x => (x.1, a.eval x.2)) h1 h2 h3
        (by simp only [List.take_replicate, sum_replicate', Nat.min_eq_left (Nat.le_of_lt hil)]) hc.1 (by simp [hil]) hc.2 (hρ e o)
      obtain ⟨cells2, css2, f1, f2, f3, f4⟩ := setElems_sound hρ h g2 g3 g4
      exact ⟨cells2, css2, by simp only [List.map_cons]; rw [g1]; exact f1, f2, f3, f4⟩
    · cases h

/-! ### rows of zeros -/
theorem zeros_list (z : List Value) (n : Nat) (h : 0 < z.length) : ((List.range (n * z.length)).map fun i => z.toArray[i % z.toArray.size]!) = (List.replicate n z).flatten := by
  have hl : ((List.replicate n z).flatten).length = n * z.length := by simp [length_flatten_eq (css := List.replicate n z) (s := z.length) (fun c hc => by rw [List.eq_of_mem_replicate hc])]
  apply List.ext_getElem?
  intro j
  by_cases hj : j < n * z.length
  · have hq : j / z.length < n := Nat.div_lt_of_lt_mul (by rw [Nat.mul_comm]; exact hj)
    have hci : (List.replicate n z)[j / z.length]? = some z := by simp [hq]
    obtain ⟨g1, g2⟩ := flatten_at hci
    have hr := Nat.mod_lt j h
    have := g2 (j % z.length) hr
    rw [take_sum_const (s := z.length) (fun c hc => by rw [List.eq_of_mem_replicate hc]) (by simp; omega)] at this
    rw [Nat.mul_comm, Nat.div_add_mod] at this
    rw [this]
    simp only [List.getElem?_map, List.getElem?_range hj, Option.map_some, List.size_toArray]
    rw [List.getElem?_eq_getElem hr]
    simp [hr]
  · rw [List.getElem?_eq_none (by simp; omega), List.getElem?_eq_none (by rw [hl]; omega)]
theorem zeros_arr (z : Array Value) (n : Nat) (h : 0 < z.size) : ((Array.range (n * z.size)).map (fun i => z[i % z.size]!)).toList = (List.replicate n z.toList).flatten := by
  have := zeros_list z.toList n (by simpa using h)
  simpa using this
theorem rels_replicate {v : V} {c : List Value} (h : RelC P S σ st w v c) : ∀ n, RelC.rels P S σ st w (List.replicate n v) (List.replicate n c)
  | 0 => rfl
  | n + 1 => ⟨c, List.replicate n c, rfl, h, rels_replicate h n⟩
end
end Go.Ev
end
