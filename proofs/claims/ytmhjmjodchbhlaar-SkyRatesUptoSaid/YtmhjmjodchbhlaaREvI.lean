/- The evaluator's soundness, eighth part: what an append does. -/
import Derived.Test.YtmhjmjodchbhlaaREvH
set_option linter.unusedVariables false
set_option linter.unusedSimpArgs false
set_option linter.unusedSectionVars false
namespace Go.Ev
open Go.RowKit

section
variable {P : Program} {B0 : Nat} {S : Nat → Prop} {σ : Sig} {st : Store} {w : World}

/-- A row seen anew, nothing written. -/
theorem bump_ok {k : Key} (hI : Inv P B0 S σ st w) (hl : (st k).live = true) :
    Inv P B0 S σ (upd st k ⟨(st k).ver + 1, (st k).e, (st k).vs, true⟩) w ∧ Evo S σ st w S σ (upd st k ⟨(st k).ver + 1, (st k).e, (st k).vs, true⟩) w := by
  have hE : Evo S σ st w S σ (upd st k ⟨(st k).ver + 1, (st k).e, (st k).vs, true⟩) w := by
    refine ⟨Nat.le_refl _, fun _ h => .inl h, fun _ h => h, fun _ _ => rfl, fun k' => ?_, fun k' hv hl' => ?_⟩
    · by_cases hk : k' = k
      · subst hk; simp [upd_same]
      · simp [upd_other _ _ _ hk]
    · by_cases hk : k' = k
      · subst hk; simp [upd_same] at hv
      · rw [upd_other _ _ _ hk] at hl' ⊢
        exact ⟨hl', rfl, rfl⟩
  have hlive : ∀ k', ((upd st k ⟨(st k).ver + 1, (st k).e, (st k).vs, true⟩) k').live = true → (st k').live = true := by
    intro k' h
    by_cases hk : k' = k
    · subst hk; exact hl
    · rw [upd_other _ _ _ hk] at h; exact h
  have he : ∀ k', ((upd st k ⟨(st k).ver + 1, (st k).e, (st k).vs, true⟩) k').e = (st k').e ∧ ((upd st k ⟨(st k).ver + 1, (st k).e, (st k).vs, true⟩) k').vs = (st k').vs := by
    intro k'
    by_cases hk : k' = k
    · subst hk; simp [upd_same]
    · rw [upd_other _ _ _ hk]; exact ⟨rfl, rfl⟩
  refine ⟨⟨hI.base, hI.safe, fun k' h => ?_, fun k1 k2 l1 l2 => hI.inj k1 k2 (hlive _ l1) (hlive _ l2)⟩, hE⟩
  obtain ⟨h2, h3⟩ := hI.own k' (hlive _ h)
  obtain ⟨e1, e2⟩ := he k'
  refine ⟨fun hn => by rw [e1, e2]; exact h2 hn, fun b c hs => ?_⟩
  obtain ⟨g1, g2, g3, o, g4, g5⟩ := h3 b c hs
  refine ⟨g1, g2, g3, o, g4, ?_⟩
  have g6 := Holds.mono hE g5
  unfold Holds at g6 ⊢
  rw [e1, e2]
  exact g6
/-- A new row without elements: no memory. -/
theorem newVirt_ok {k : Key} {e : TypeId} (hI : Inv P B0 S σ st w) (hpos : 0 < szOf P e) :
    Inv P B0 S (updS σ k none) (newBlk st k e []) w ∧ Evo S σ st w S (updS σ k none) (newBlk st k e []) w := by
  have hE : Evo S σ st w S (updS σ k none) (newBlk st k e []) w := by
    refine ⟨Nat.le_refl _, fun _ h => .inl h, fun _ h => h, fun _ _ => rfl, fun k' => ?_, fun k' hv hl => ?_⟩
    · by_cases hk : k' = k
      · subst hk; simp [newBlk, upd_same]
      · simp [newBlk, upd_other _ _ _ hk]
    · by_cases hk : k' = k
      · subst hk; simp [newBlk, upd_same] at hv
      · rw [newBlk, upd_other _ _ _ hk] at hv hl
        rw [newBlk, upd_other _ _ _ hk]
        exact ⟨hl, updS_other _ _ _ hk, rfl⟩
  refine ⟨⟨hI.base, hI.safe, fun k' hl => ?_, fun k1 k2 l1 l2 hne b c b' c' e1 e2 => ?_⟩, hE⟩
  · by_cases hk : k' = k
    · subst hk
      exact ⟨fun _ => ⟨by simp [newBlk, upd_same], by simpa [newBlk, upd_same] using hpos⟩, fun b c h => by simp [updS_same] at h⟩
    · rw [newBlk, upd_other _ _ _ hk] at hl
      obtain ⟨h2, h3⟩ := hI.own k' hl
      refine ⟨fun h => ?_, fun b c h => ?_⟩
      · rw [newBlk, upd_other _ _ _ hk]; rw [updS_other _ _ _ hk] at h; exact h2 h
      · rw [updS_other _ _ _ hk] at h
        obtain ⟨g1, g2, g3, o, g4, g5⟩ := h3 b c h
        refine ⟨g1, g2, g3, o, g4, ?_⟩
        rw [newBlk, upd_other _ _ _ hk]
        exact Holds.mono hE g5
  · by_cases hk1 : k1 = k
    · subst hk1; simp [updS_same] at e1
    · by_cases hk2 : k2 = k
      · subst hk2; simp [updS_same] at e2
      · rw [updS_other _ _ _ hk1] at e1; rw [updS_other _ _ _ hk2] at e2
        rw [newBlk, upd_other _ _ _ hk1] at l1; rw [newBlk, upd_other _ _ _ hk2] at l2
        exact hI.inj k1 k2 l1 l2 hne b c b' c' e1 e2

theorem rels_nil_css {css : List (List Value)} {us : List V} (h : RelC.rels P S σ st w us css) (hu : us = []) : css = [] := by subst hu; exact h

/-- The elements that a slice shows, as they lie. -/
theorem elems_ok {x : V} {e' : TypeId} {new : List V} {xv : Value} (h : elemsOf st x = some (e', new)) (hI : Inv P B0 S σ st w) (hx : RelV P S σ st w x xv) :
    ∃ A c css, xv = .slice A new.length c ∧ RelC.rels P S σ st w new css ∧ (∀ c ∈ css, c.length = szOf P e') ∧ (new = [] ∨ ∃ a, A = some a ∧ ∀ j u, css.flatten[j]? = some u → w.cell? (a.add j) = some u) := by
  unfold elemsOf at h
  split at h
  · rename_i e ds
    cases h
    obtain ⟨A, cap, rfl, hds⟩ := relV_sl hx
    rcases hds with rfl | ⟨b, o, css, rfl, hb, hcc, hcs, hat, hf⟩
    · exact ⟨A, cap, [], rfl, rfl, by simp, .inl rfl⟩
    · exact ⟨_, cap, css, by simp, rels_map hf, hcs, .inr ⟨_, rfl, hat.cell⟩⟩
  · cases h
    obtain ⟨A, rfl⟩ := relV_nils hx
    exact ⟨A, 0, [], rfl, rfl, by simp, .inl rfl⟩
  · rename_i er k ver off len full
    split at h
    · rename_i hc
      obtain ⟨hv, hl, hle⟩ := hc
      cases h
      obtain ⟨A, c, rfl, hlc, hA, hver, hfr⟩ := relV_rs hx
      obtain ⟨g0, gp, g1, g2⟩ := hfr hv.symm hl
      have hlen : (((st k).vs.drop off).take len).length = len := by simp; omega
      rw [hlen]
      have hpos : 0 < szOf P (st k).e := by rw [g0]; exact gp
      obtain ⟨hn, hs⟩ := (hI.own k hl).row hpos
      cases hσ : σ k with
      | none =>
        obtain ⟨rfl, rfl⟩ := g1 hσ
        have : len = 0 := by omega
        subst this
        exact ⟨A, 0, [], rfl, by simp [RelC.rels], by simp, .inl (by simp)⟩
      | some bc =>
        obtain ⟨b, cap⟩ := bc
        obtain ⟨q1, q2, q3⟩ := g2 b cap hσ
        obtain ⟨f1, f2, f3, cur, css, f4, f5, f6, f7, f8, f9, f10⟩ := hs b cap hσ
        refine ⟨A, c, (css.drop off).take len, rfl, rels_take _ (rels_drop _ f10), fun c' hc' => g0 ▸ f9 c' (List.mem_of_mem_drop (List.mem_of_mem_take hc')), ?_⟩
        by_cases hl0 : len = 0
        · subst hl0; exact .inl (by simp)
        · right
          rcases q1 with q1 | rfl
          · omega
          · refine ⟨_, rfl, ?_⟩
            have hcl := rels_length f10
            have hat : cellsAt w b 0 css.flatten := ⟨cur, (st k).e, (0, 0), f4, fun j hj => by rw [Nat.zero_add]; exact cell_of_take f8 hj⟩
            have := drop_take_cells (l := off) (h := off + len) hat f9 (by omega) (by omega)
            rw [List.drop_take, Nat.add_sub_cancel_left, Nat.zero_add] at this
            exact this.cell
    · cases h
  · cases h

/-- The row behind an append that found room. -/
theorem take_splice {L news : List Value} {p : Nat} (h : p ≤ L.length) : (L.take p ++ news ++ L.drop (p + news.length)).take (p + news.length) = L.take p ++ news := by
  apply List.take_left'
  simp; omega
theorem rs_rel {e : TypeId} {k : Key} {ver len b cap : Nat} {S' : Nat → Prop} {σ' : Sig} {st' : Store} {w' : World} (hpos : 0 < szOf P e) (hv : (st' k).ver = ver) (he : (st' k).e = e) (hσ : σ' k = some (b, cap)) (hl : len ≤ cap) :
    RelV P S' σ' st' w' (.rs e k ver 0 len true) (.slice (some ⟨b, 0, none⟩) len cap) := by
  refine RelC.to_v ⟨_, cap, rfl, hl, fun _ => ⟨_, rfl⟩, by omega, fun _ _ => ⟨he, hpos, fun h => (by rw [hσ] at h; cases h), fun b' c' h => ?_⟩⟩ rfl
  rw [hσ] at h
  cases h
  exact ⟨.inr (by simp), by omega, fun _ => by omega⟩

theorem below_drew (w : World) (B : Nat) : Below B w w.drew := ⟨rfl, rfl, rfl, Nat.le_refl _, fun _ _ => rfl⟩

/-- A row that had no room: all elements in a new block. -/
theorem grown_ok {k : Key} {e : TypeId} {i : TypeInfo} {z : Value} {vs : List V} {css : List (List Value)} {olds news : List Value} {need old : Nat} (hI : Inv P B0 S σ st w) (hi : P.info? e = some i) (hz : z.cells.size = i.size) (hpos : 0 < szOf P e)
    (hcss : ∀ c ∈ css, c.length = szOf P e) (hrel : RelC.rels P S σ st w vs css) (hfl : olds ++ news = css.flatten) (hneed : need = vs.length) (hmax : need ≤ maxRow) :
    ∃ σ', Inv P B0 S σ' (newBlk st k e vs) (w.drew.alloc (.cells (olds.toArray ++ news.toArray ++ Builtin.zeroCells z.cells (grownCap w need old e - need)) e)) ∧
      Evo S σ st w S σ' (newBlk st k e vs) (w.drew.alloc (.cells (olds.toArray ++ news.toArray ++ Builtin.zeroCells z.cells (grownCap w need old e - need)) e)) ∧
      Below B0 w (w.drew.alloc (.cells (olds.toArray ++ news.toArray ++ Builtin.zeroCells z.cells (grownCap w need old e - need)) e)) ∧
      RelV P S σ' (newBlk st k e vs) (w.drew.alloc (.cells (olds.toArray ++ news.toArray ++ Builtin.zeroCells z.cells (grownCap w need old e - need)) e)) (.rs e k ((st k).ver + 1) 0 need true)
        (.slice (some ⟨w.heap.size, 0, none⟩) need (grownCap w need old e)) := by
  have hge := grownCap_ge w need old e
  have hmx := grownCap_le_maxLen w need old e (by simp only [maxRow, maxLen] at *; omega)
  have hlen := rels_length hrel
  have hfll : css.flatten.length = need * szOf P e := by rw [length_flatten_eq hcss, hlen, hneed]
  have hE0 : Evo S σ st w S σ st w.drew := ⟨Nat.le_refl _, fun _ h => .inl h, fun _ h => h, fun b _ => rfl, fun _ => Nat.le_refl _, fun _ _ h => ⟨h, rfl, rfl⟩⟩
  obtain ⟨h1, h2, h3⟩ := newBlk_ok (w0 := w) (w := w.drew) (k := k) (e := e) (vs := vs) (css := css) (cur := olds.toArray ++ news.toArray ++ Builtin.zeroCells z.cells (grownCap w need old e - need)) (cap := grownCap w need old e)
    hI rfl (below_drew w B0) hpos hcss (RelC.monos hE0 _ _ hrel)
    (by
      have : (olds.toArray ++ news.toArray).size = need * szOf P e := by rw [← hfll, ← hfl]; simp
      rw [Array.size_append, this, size_zeroCells, hz, ← szOf_info hi, ← Nat.add_mul]
      congr 1; omega)
    (by omega) hmx
    (by
      rw [← hneed, ← hfll, ← hfl]
      simp only [Array.toList_append]
      exact List.take_left' rfl)
  refine ⟨_, h1, hE0.trans h2, h3, ?_⟩
  exact rs_rel hpos (by simp [newBlk, upd_same]) (by simp [newBlk, upd_same]) (by simp [updS_same]) hge

theorem run_firstCells_nil (size len cap : Nat) (A : Option Addr) (w : World) : (Builtin.firstCells size 0 (.slice A len cap)).run P w = .ok #[] w := by
  cases A with
  | none => simp [Builtin.firstCells]
  | some a => simp [Builtin.firstCells, loadCells, loadCellsFrom]
/-- Nothing appended. -/
theorem run_append_zero {t ty e : TypeId} {i : TypeInfo} (hu : P.underlying t = some (.slice e)) (hi : P.info? e = some i) (A X : Option Addr) (len c xc : Nat) (h : len ≤ c) (w : World) :
    (Builtin.append_ #[t, t] ty #[.slice A len c, .slice X 0 xc]).run P w = .ok (.slice A len c) w := by
  cases A <;> simp [Builtin.append_, run_underlying hu, sizeOf, typeInfo, hi, Builtin.lenOf, h, run_firstCells_nil, storeCells]
/-- An append to a slice without capacity. -/
theorem run_append_fresh {t ty e : TypeId} {i : TypeInfo} {z : Value} (hu : P.underlying t = some (.slice e)) (hi : P.info? e = some i) (hz : i.zero = some z) (A : Option Addr) (a : Addr) (m c : Nat) (news : List Value) (hl : news.length = m * i.size)
    (hnews : ∀ j v, news[j]? = some v → w.cell? (a.add j) = some v) (h0 : 0 < m) (hm : m ≤ maxRow) (hb : m * i.bytes ≤ maxRow) :
    (Builtin.append_ #[t, t] ty #[.slice A 0 0, .slice (some a) m c]).run P w = .ok (.slice (some ⟨w.heap.size, 0, none⟩) m (grownCap w m 0 e))
      (w.drew.alloc (.cells (([] : List Value).toArray ++ news.toArray ++ Builtin.zeroCells z.cells (grownCap w m 0 e - m)) e)) := by
  simp only [maxRow] at hm hb
  cases A with
  | none =>
    have := run_append_nil (P := P) w t ty e i z hu hi hz a m c news hl hnews h0 (by omega) (by omega)
    rw [this]; simp
  | some b =>
    have := run_append_grow (P := P) w t ty e i z hu hi hz b 0 0 [] (by simp) (by simp) a m c news hl hnews (by omega) (by omega) (by
      rw [Nat.zero_add]; exact growslice_fits h0 (by omega))
    simpa using this

theorem append_ok {t ty e : TypeId} {env : List V} {a : Act} {lv : Nat} {dst : Option Tmp} {sO xO : Operand} {v : V} {st' : Store} (hI : Inv P B0 S σ st w) (hrel : EnvRel P S σ st w env a.tmps)
    (h : evStore P (evalT P env) lv dst st (.call { callee := .builtin .append, args := #[sO, xO], argTypes := #[t, t] }) = some (v, st')) :
    ∃ val w' S' σ', (Builtin.append_ #[t, t] ty #[a.eval sO, a.eval xO]).run P w = .ok val w' ∧ Inv P B0 S' σ' st' w' ∧ Evo S σ st w S' σ' st' w' ∧ Below B0 w w' ∧ RelV P S' σ' st' w' v val := by
  have hs := evalT_rel hrel t sO
  have hx := evalT_rel hrel t xO
  cases dst with
  | none => simp [evStore] at h
  | some d =>
  simp only [evStore] at h
  split at h
  · rename_i e1 z1 e' new hk hz1 he
    rw [hk] at hz1
    simp only at hz1
    split at h
    · rename_i hc
      obtain ⟨_, rfl, hnl⟩ := hc
      obtain ⟨hu, _, hpos, _⟩ := tk_sl hk
      obtain ⟨X, xc, cssN, hxv, hrelN, hcssN, hcellsN⟩ := elems_ok he hI hx
      obtain ⟨i, z, hi, hz, hzok⟩ := zeroV_sound (S := S) (σ := σ) (st := st) (w := w) hz1
      have hzs : z.cells.size = i.size := by rw [← szOf_info hi]; simpa using hzok.2.2
      have hsz := szOf_info hi
      have hby := bytesOf_info hi
      have hnfl : cssN.flatten.length = new.length * i.size := by rw [length_flatten_eq hcssN, rels_length hrelN, hsz]
      rw [hxv]
      unfold appendTo at h
      split at h
      · -- a nil slice
        rename_i e2 hv2
        rw [hv2] at hs
        obtain ⟨A, hsv⟩ := relV_nils hs
        rw [hsv]
        split at h
        · rename_i hc2
          cases h
          by_cases hm : new = []
          · subst hm
            obtain ⟨h1, h2⟩ := newVirt_ok (k := (lv, d)) (e := e') hI hpos
            refine ⟨_, w, S, _, run_append_zero hu hi A X 0 0 xc (Nat.le_refl _) w, h1, h2, Below.refl _ _, RelC.to_v ⟨A, 0, rfl, Nat.le_refl _, fun h => absurd h (by simp), by simp [newBlk, upd_same], fun _ _ => ?_⟩ rfl⟩
            refine ⟨by simp [newBlk, upd_same], hpos, fun _ => ⟨rfl, rfl⟩, fun b c h => ?_⟩
            simp [updS_same] at h
          · rcases hcellsN with h0 | ⟨ad, rfl, hcells⟩
            · exact absurd h0 hm
            · have hpos' : 0 < new.length := List.length_pos_iff.2 hm
              have hrun := run_append_fresh (P := P) (w := w) (ty := ty) hu hi hz A ad new.length xc cssN.flatten hnfl hcells hpos' hnl (by rw [← hby]; exact hc2.2)
              obtain ⟨σ', g1, g2, g3, g4⟩ := grown_ok (k := (lv, d)) (e := e') (z := z) (vs := new) (css := cssN) (olds := []) (news := cssN.flatten) (need := new.length) (old := 0) hI hi hzs hpos hcssN hrelN (by simp) rfl hnl
              exact ⟨_, _, S, σ', hrun, g1, g2, g3, g4⟩
        · cases h
      · -- a row of the store
        rename_i er k ver off len full hv2
        rw [hv2] at hs
        split at h
        · rename_i hc2
          obtain ⟨rfl, hl, rfl, rfl, rfl, rfl, hmx, hbx⟩ := hc2
          cases h
          obtain ⟨A, c, hsv, hlc, hA, hver, hfr⟩ := relV_rs hs
          rw [hsv]
          obtain ⟨g0, gp, g1, g2⟩ := hfr rfl hl
          subst g0
          have hst : upd st k ⟨(st k).ver + 1, (st k).e, (st k).vs ++ new, true⟩ = newBlk st k (st k).e ((st k).vs ++ new) := rfl
          obtain ⟨hn, hsome⟩ := (hI.own k hl).row hpos
          by_cases hm : new = []
          · subst hm
            obtain ⟨h1, h2⟩ := bump_ok hI hl
            refine ⟨_, w, S, σ, run_append_zero hu hi A X _ c xc hlc w, by simpa using h1, by simpa using h2, Below.refl _ _, RelC.to_v ⟨A, c, by simp, by simpa using hlc, by simpa using hA, by simp [upd_same], fun _ _ => ?_⟩ rfl⟩
            refine ⟨by simp [upd_same], hpos, g1, fun b c' h => ?_⟩
            have := g2 b c' h
            simpa [upd_same] using this
          · rcases hcellsN with h0 | ⟨ad, rfl, hcells⟩
            · exact absurd h0 hm
            · have hpos' : 0 < new.length := List.length_pos_iff.2 hm
              cases hσ : σ k with
              | none =>
                have hvs := hn hσ
                obtain ⟨_, hc0⟩ := g1 hσ
                subst hc0
                have hl0 : (st k).vs.length = 0 := by rw [hvs]; rfl
                rw [hl0]
                have hrun := run_append_fresh (P := P) (w := w) (ty := ty) hu hi hz A ad new.length xc cssN.flatten hnfl hcells hpos' hnl (by rw [← hby]; rw [hl0, Nat.zero_add] at hbx; exact hbx)
                obtain ⟨σ', f1, f2, f3, f4⟩ := grown_ok (k := k) (e := (st k).e) (z := z) (vs := new) (css := cssN) (olds := []) (news := cssN.flatten) (need := new.length) (old := 0) hI hi hzs hpos hcssN hrelN (by simp) rfl hnl
                rw [hst, hvs]
                simp only [List.nil_append, Nat.zero_add]
                exact ⟨_, _, S, σ', hrun, f1, f2, f3, f4⟩
              | some bc =>
                obtain ⟨b, cap⟩ := bc
                obtain ⟨q1, q2, q3⟩ := g2 b cap hσ
                have hcc : c = cap := by have := q3 rfl; omega
                subst hcc
                obtain ⟨f1, f2, f3, cur, css, f4, f5, f6, f7, f8, f9, f10⟩ := hsome b c hσ
                have hcl := rels_length f10
                have hfl : css.flatten.length = (st k).vs.length * i.size := by rw [length_flatten_eq f9, hcl, hsz]
                by_cases hroom : (st k).vs.length + new.length ≤ c
                · -- there is room
                  have hAb : A = some ⟨b, 0 * szOf P (st k).e, none⟩ := by
                    rcases q1 with q1 | q1
                    · omega
                    · exact q1
                  simp only [Nat.zero_mul] at hAb
                  subst hAb
                  have hfit : (st k).vs.length * i.size + cssN.flatten.length ≤ cur.size := by rw [hnfl, f5, hsz, ← Nat.add_mul]; exact Nat.mul_le_mul_right _ hroom
                  have hrun := run_append_room (P := P) w t ty (st k).e i hu hi b (st k).vs.length c cur f4 ad new.length xc cssN.flatten hnfl hcells (one_of_mem (RelC.ones new cssN hrelN)) hroom hfit
                  have htk : cur.toList.take ((st k).vs.length * i.size) = css.flatten := by rw [← hsz]; exact f8
                  obtain ⟨r1, r2, r3⟩ := setRow_ok (k := k) (v' := (st k).ver + 1) (vs' := (st k).vs ++ new) (css' := css ++ cssN) (cur' := (cur.toList.take ((st k).vs.length * i.size) ++ cssN.flatten ++ cur.toList.drop ((st k).vs.length * i.size + cssN.flatten.length)).toArray)
                    hI hpos hl hσ (by omega) (rels_append f10 hrelN) (by
                      intro c' hc'
                      rcases List.mem_append.1 hc' with h | h
                      · exact f9 c' h
                      · exact hcssN c' h)
                    (by
                      rw [← f5]
                      simp only [List.size_toArray, List.length_append, List.length_take, List.length_drop, Array.length_toList]
                      omega)
                    (by simpa using hroom)
                    (by
                      have e1 : ((st k).vs ++ new).length * szOf P (st k).e = (st k).vs.length * i.size + cssN.flatten.length := by
                        rw [hnfl, hsz, List.length_append, Nat.add_mul]
                      rw [e1]
                      show List.take _ (_ ++ _ ++ _) = _
                      rw [take_splice (by rw [Array.length_toList]; omega), htk, List.flatten_append])
                  exact ⟨_, _, S, σ, hrun, r1, r2, r3, rs_rel hpos (by simp [upd_same]) (by simp [upd_same]) hσ hroom⟩
                · -- no room
                  by_cases hc0 : c = 0
                  · -- no capacity at all
                    subst hc0
                    have hl0 : (st k).vs.length = 0 := by omega
                    have hv0 : (st k).vs = [] := List.eq_nil_of_length_eq_zero hl0
                    have hcs0 : css = [] := List.eq_nil_of_length_eq_zero (by rw [hcl, hl0])
                    subst hcs0
                    rw [hl0]
                    have hrun := run_append_fresh (P := P) (w := w) (ty := ty) hu hi hz A ad new.length xc cssN.flatten hnfl hcells hpos' hnl (by rw [← hby]; rw [hl0, Nat.zero_add] at hbx; exact hbx)
                    obtain ⟨σ', r1, r2, r3, r4⟩ := grown_ok (k := k) (e := (st k).e) (z := z) (vs := new) (css := cssN) (olds := []) (news := cssN.flatten) (need := new.length) (old := 0) hI hi hzs hpos hcssN hrelN (by simp) rfl hnl
                    rw [hst, hv0]
                    simp only [List.nil_append, Nat.zero_add]
                    exact ⟨_, _, S, σ', hrun, r1, r2, r3, r4⟩
                  have holds : ∃ b0, A = some b0 ∧ ∀ j v, css.flatten[j]? = some v → w.cell? (b0.add j) = some v := by
                    rcases q1 with q1 | q1
                    · exact absurd q1 hc0
                    · refine ⟨_, q1, ?_⟩
                      have hat : cellsAt w b 0 css.flatten := ⟨cur, (st k).e, (0, 0), f4, fun j hj => by rw [Nat.zero_add]; exact cell_of_take f8 hj⟩
                      simpa using hat.cell
                  obtain ⟨b0, rfl, holds⟩ := holds
                  have hrun := run_append_grow (P := P) w t ty (st k).e i z hu hi hz b0 (st k).vs.length c css.flatten hfl holds ad new.length xc cssN.flatten hnfl hcells (by omega) (by simp only [maxRow] at hmx; omega)
                    (growslice_fits (by omega) (by simp only [maxRow] at hbx; rw [← hby]; exact hbx))
                  obtain ⟨σ', r1, r2, r3, r4⟩ := grown_ok (k := k) (e := (st k).e) (z := z) (vs := (st k).vs ++ new) (css := css ++ cssN) (olds := css.flatten) (news := cssN.flatten) (need := (st k).vs.length + new.length) (old := c) hI hi hzs hpos
                    (by
                      intro c' hc'
                      rcases List.mem_append.1 hc' with h | h
                      · exact f9 c' h
                      · exact hcssN c' h) (rels_append f10 hrelN) (by simp) (by simp) hmx
                  exact ⟨_, _, S, σ', hrun, r1, r2, r3, r4⟩
        · cases h
      · cases h
    · cases h
  · cases h
end
end Go.Ev
