/- The evaluator's soundness, fifth part: fields, elements, slices, lengths. -/
import Derived.Test.YtmhjmjodchbhlaaREvE
set_option linter.unusedVariables false
set_option linter.unusedSimpArgs false
set_option linter.unusedSectionVars false
namespace Go.Ev
open Go.RowKit

section
variable {P : Program} {S : Nat → Prop} {σ : Sig} {st : Store} {w : World}

theorem szOf_pos_info {t : TypeId} (h : 0 < szOf P t) : ∃ i, P.info? t = some i := by
  unfold szOf Program.cellsOf at h
  cases hi : P.info? t with
  | none => rw [hi] at h; simp at h
  | some i => exact ⟨i, rfl⟩
theorem run_sizeOf_pos {t : TypeId} (h : 0 < szOf P t) (w : World) : (sizeOf t).run P w = .ok (szOf P t) w := by
  obtain ⟨i, hi⟩ := szOf_pos_info h
  simp [sizeOf, typeInfo, hi, szOf_info hi]
theorem pathOff_append {path : List (TypeId × Nat)} {t : TypeId} {f off : Nat} {l : List Nat} (h : pathOff P path = some off) (hc : comps P t = some l) (hf : f < l.length) :
    pathOff P (path ++ [(t, f)]) = some (off + (l.take f).sum) := by
  induction path generalizing off with
  | nil => simp [pathOff] at h; subst h; simp [pathOff, hc, hf]
  | cons x r ih =>
    obtain ⟨t', i⟩ := x
    simp only [pathOff] at h
    cases hq : comps P t' with
    | none => rw [hq] at h; simp at h
    | some l' =>
      cases hr : pathOff P r with
      | none => rw [hq, hr] at h; simp at h
      | some n =>
        rw [hq, hr] at h
        simp only at h
        split at h
        · rename_i hlt
          cases h
          have := ih hr
          simp only [List.cons_append, pathOff, hq, this, if_pos hlt]
          congr 1; omega
        · cases h

/-- A field's address. -/
theorem run_fieldAt {t : TypeId} {f n : Nat} {A : Addr} (h : tk P t = .agg n false) (hf : f < n) (w : World) : ∃ (l : List Nat), comps P t = some l ∧ l.length = n ∧
    (Instr.fieldAt t (.pointer (some A)) f).run P w = .ok (.pointer (some (A.add (l.take f).sum))) w := by
  obtain ⟨⟨l, hl, hn⟩, ⟨fs, hu, _⟩ | ⟨m, e, hu, hr⟩⟩ := tk_agg h
  · obtain ⟨rfl, ho, hs, _⟩ := comps_struct hu hl
    obtain ⟨h1, h2⟩ := offsOk_spec _ _ ho
    have hlt : f < fs.toList.length := by simp at hn; simp; omega
    have hfs : fs.toList[f]? = some fs.toList[f] := List.getElem?_eq_getElem hlt
    have hfa : fs[f]? = some fs.toList[f] := by rw [← Array.getElem?_toList]; exact hfs
    have hoff := h2 f _ hfs
    have hpos := h1 _ (List.mem_of_getElem? hfs)
    refine ⟨_, hl, hn, ?_⟩
    simp only [Nat.zero_add] at hoff
    have hne : szOf P fs.toList[f].type ≠ 0 := by omega
    unfold Instr.fieldAt
    simp only [Sem.run_bind, run_underlying hu, Result.andThen_ok, hfa, Instr.sureAddr, Sem.run_pure, fieldPlace, run_sizeOf_pos hpos, hne, if_false]
    rw [← hoff]
  · cases hr

/-- A component of an aggregate. -/
theorem agg_at {t : TypeId} {f : Nat} {y : V} {css : List (List Value)} {c : List Value} {vs : List V} (hc : css[f]? = some c) (hy : RelC P S σ st w y c) :
    ((css.map List.length).take f).sum + c.length ≤ css.flatten.length ∧ ∀ j, j < c.length → css.flatten[((css.map List.length).take f).sum + j]? = c[j]? := flatten_at hc
theorem field_sound {t e : TypeId} {f n : Nat} {y : V} {css : List (List Value)} {c : List Value} (hk : tk P t = .agg n false) (he : compT P t f = some e) (ht : hasT P e y = true)
    (hcomp : comps P t = some (css.map List.length)) (hc : css[f]? = some c) (hy : RelC P S σ st w y c) : (Instr.field t (.agg css.flatten.toArray) f).run P w = .ok (valOf y c) w := by
  obtain ⟨⟨l, hl, hn⟩, ⟨fs, hu, _⟩ | ⟨m, e', hu, hr⟩⟩ := tk_agg hk
  · obtain ⟨rfl, ho, hs, _⟩ := comps_struct hu hl
    obtain ⟨h1, h2⟩ := offsOk_spec _ _ ho
    have hcl : f < css.length := (List.getElem?_eq_some_iff.1 hc).1
    rw [hl] at hcomp
    have hcomp := Option.some.inj hcomp
    have hlt : f < fs.toList.length := by
      have := congrArg List.length hcomp
      simp at this; simp; omega
    have hfs : fs.toList[f]? = some fs.toList[f] := List.getElem?_eq_getElem hlt
    have hfa : fs[f]? = some fs.toList[f] := by rw [← Array.getElem?_toList]; exact hfs
    have hoff := h2 f _ hfs
    simp only [Nat.zero_add] at hoff
    have hte : fs.toList[f].type = e := by
      unfold compT compTs at he
      rw [hu, nth_eq] at he
      simp only [List.getElem?_map, hfs, Option.map_some, Option.some.injEq] at he
      exact he
    obtain ⟨g1, g2⟩ := flatten_at hc
    unfold Instr.field
    simp only [Sem.run_bind, run_underlying hu, Result.andThen_ok, hfa, asAgg, Sem.run_pure]
    rw [hte, hoff, hcomp]
    exact run_part ht hy g1 g2
  · cases hr

/-! ### slices -/
theorem optI_rel {env : List V} {a : Act} (h : EnvRel P S σ st w env a.tmps) {o : Option Operand} {r : Option Int} (ho : optI (o.map (evalT P env 0)) = some r) :
    (o.map a.eval = none ∧ r = none) ∨ ∃ k n, o.map a.eval = some (.int k n) ∧ r = some n := by
  cases o with
  | none => simp [optI] at ho; exact .inl ⟨rfl, ho.symm⟩
  | some x =>
    simp only [Option.map_some] at ho
    have hr := evalT_rel h 0 x
    unfold optI at ho
    split at ho
    · rename_i hq; cases hq
    · rename_i k n hq
      cases ho
      rw [Option.some.inj hq] at hr
      exact .inr ⟨k, n, by simp [relV_int hr], rfl⟩
    · cases ho

/-- The model's slicing, by whole numbers. -/
theorem run_slice_ints {t e : TypeId} (hu : P.underlying t = some (.slice e)) (hpos : 0 < szOf P e) (A : Option Addr) (len cap : Nat) (lo hi mx : Option Value) (l h m : Option Int)
    (hl : (lo = none ∧ l = none) ∨ ∃ k n, lo = some (.int k n) ∧ l = some n) (hh : (hi = none ∧ h = none) ∨ ∃ k n, hi = some (.int k n) ∧ h = some n) (hm : (mx = none ∧ m = none) ∨ ∃ k n, mx = some (.int k n) ∧ m = some n)
    (h1 : 0 ≤ l.getD 0) (h2 : l.getD 0 ≤ h.getD len) (h3 : h.getD len ≤ cap) (h4 : ∀ q, m = some q → h.isSome = true ∧ h.getD len ≤ q ∧ q ≤ cap) (w : World) :
    (Instr.sliceAt t (.slice A len cap) lo hi mx).run P w = .ok (sliced A (l.getD 0).toNat (h.getD len).toNat ((m.getD cap).toNat) (szOf P e)) w := by
  have hb : ∀ (i : Int) (y : Nat) (k : IntKind) (code : BoundsCode), 0 ≤ i → i ≤ y → (Instr.sliceBound (.int k i) y code).run P w = .ok i.toNat w := fun i y k code g1 g2 => run_sliceBound (P := P) w k i y code g1 g2
  have hsz := run_sizeOf_pos hpos w
  have e2 : ∀ (h : Int), 0 ≤ h → (h.toNat : Int) = h := fun h g => Int.toNat_of_nonneg g
  unfold Instr.sliceAt Instr.slice Instr.sliceBounds
  rcases hm with ⟨rfl, rfl⟩ | ⟨km, m, rfl, rfl⟩
  · rcases hh with ⟨rfl, rfl⟩ | ⟨kh, h, rfl, rfl⟩ <;> rcases hl with ⟨rfl, rfl⟩ | ⟨kl, l, rfl, rfl⟩ <;> simp only [Option.getD_none, Option.getD_some] at h1 h2 h3 ⊢
    · simp [run_underlying hu, hsz, sliced]
    · simp [run_underlying hu, hsz, sliced, hb l len kl _ h1 h2]
    · simp [run_underlying hu, hsz, sliced, hb h cap kh _ h2 h3]
    · have g : 0 ≤ h := by omega
      simp [run_underlying hu, hsz, sliced, hb h cap kh _ g h3, hb l h.toNat kl _ h1 (by rw [e2 h g]; exact h2)]
  · obtain ⟨hs, g1, g2⟩ := h4 m rfl
    rcases hh with ⟨rfl, rfl⟩ | ⟨kh, h, rfl, rfl⟩
    · simp at hs
    · simp only [Option.getD_some] at h2 h3 g1
      rcases hl with ⟨rfl, rfl⟩ | ⟨kl, l, rfl, rfl⟩ <;> simp only [Option.getD_none, Option.getD_some] at h1 h2 ⊢
      · have gm : 0 ≤ m := by omega
        simp [run_underlying hu, hsz, sliced, hb m cap km _ gm g2, hb h m.toNat kh _ h2 (by rw [e2 m gm]; exact g1)]
      · have g : 0 ≤ h := by omega
        have gm : 0 ≤ m := by omega
        simp [run_underlying hu, hsz, sliced, hb m cap km _ gm g2, hb h m.toNat kh _ g (by rw [e2 m gm]; exact g1), hb l h.toNat kl _ h1 (by rw [e2 h g]; exact h2)]
theorem drop_take_cells {w : World} {b o s l h : Nat} {css : List (List Value)} (hat : cellsAt w b o css.flatten) (hs : ∀ c ∈ css, c.length = s) (hl : l ≤ h) (hh : h ≤ css.length) :
    cellsAt w b (o + l * s) ((css.take h).drop l).flatten := by
  have e1 : css = css.take l ++ ((css.take h).drop l ++ css.drop h) := by
    have h1 : css.take l = (css.take h).take l := by rw [List.take_take, Nat.min_eq_left hl]
    rw [← List.append_assoc, h1, List.take_append_drop, List.take_append_drop]
  have e2 : (css.take l).flatten.length = l * s := by
    rw [length_flatten_eq (fun c hc => hs c (List.mem_of_mem_take hc)), List.length_take, Nat.min_eq_left (by omega)]
  have e3 : css.flatten = (css.take l).flatten ++ (((css.take h).drop l).flatten ++ (css.drop h).flatten) := by
    conv => lhs; rw [e1]
    simp only [List.flatten_append]
  refine hat.part ?_ ?_
  · rw [e3]; simp only [List.length_append, e2]; omega
  · intro j hj
    rw [e3, List.getElem?_append_right (by omega), e2, show l * s + j - l * s = j by omega, List.getElem?_append_left hj]

theorem slice_sound {t e : TypeId} {x v : V} {val : Value} {lo hi mx : Option Value} {l h m : Option Int} (hk : tk P t = .sl e) (hv : evSlice x l h m = some v) (hx : RelV P S σ st w x val)
    (he : ∀ e' ds, x = .d (.sl e' ds) → e' = e) (he2 : ∀ er k ver off len full, x = .rs er k ver off len full → er = e)
    (hl : (lo = none ∧ l = none) ∨ ∃ k n, lo = some (.int k n) ∧ l = some n) (hh : (hi = none ∧ h = none) ∨ ∃ k n, hi = some (.int k n) ∧ h = some n) (hm : (mx = none ∧ m = none) ∨ ∃ k n, mx = some (.int k n) ∧ m = some n)
    (hmh : m.isSome = true → h.isSome = true) :
    ∃ r, (Instr.sliceAt t val lo hi mx).run P w = .ok r w ∧ RelV P S σ st w v r := by
  obtain ⟨hu, _, hpos, _⟩ := tk_sl hk
  unfold evSlice at hv
  split at hv
  · rename_i e' ds
    have := he _ _ rfl; subst this
    obtain ⟨A, cap, rfl, hds⟩ := relV_sl hx
    have hcap : ds.length ≤ cap ∨ ds = [] := by rcases hds with h | ⟨b, o, css, _, _, h, _⟩ <;> simp [*]
    have hcap' : ds.length ≤ cap := by rcases hcap with h | h; · exact h
                                       · simp [h]
    simp only at hv
    split at hv
    · rename_i hc
      obtain ⟨c1, c2, c3⟩ := hc
      -- the elements shown
      have shown : ∀ cap' : Nat, (h.getD ds.length).toNat ≤ cap' → RelV P S σ st w (.d (.sl e' ((ds.take (h.getD ds.length).toNat).drop (l.getD 0).toNat))) (sliced A (l.getD 0).toNat (h.getD ds.length).toNat cap' (szOf P e')) := by
        intro cap' hle
        generalize hH : (h.getD ds.length).toNat = H at *
        generalize hL : (l.getD 0).toNat = L at *
        have hLH : L ≤ H := by omega
        have hHd : H ≤ ds.length := by omega
        have hlen : ((ds.take H).drop L).length = H - L := by simp; omega
        refine RelC.to_v ?_ rfl
        refine ⟨if cap' = L then A else A.map (·.add (L * szOf P e')), cap' - L, by rw [hlen]; rfl, ?_⟩
        by_cases hem : (ds.take H).drop L = []
        · exact .inl hem
        · refine .inr ?_
          have hLt : L < H := by
            rcases Nat.lt_or_ge L H with h | h
            · exact h
            · exact absurd (List.eq_nil_of_length_eq_zero (by rw [hlen]; omega)) hem
          rcases hds with hds | ⟨b, o, css, rfl, hb, hcc, hcs, hat, hf⟩
          · subst hds; simp at hHd; omega
          · have hcl := fls_length hf
            refine ⟨b, o + L * szOf P e', (css.take H).drop L, ?_, hb, by rw [hlen]; omega, fun c hc => hcs c (List.mem_of_mem_take (List.mem_of_mem_drop hc)), drop_take_cells hat hcs (by omega) (by omega), fls_drop _ (fls_take _ hf)⟩
            rw [if_neg (by omega)]
            simp only [Option.map_some, add_none]
      split at hv
      · cases hv
        rcases hm with ⟨rfl, _⟩ | ⟨_, _, _, hm⟩
        · exact ⟨_, run_slice_ints hu hpos A ds.length cap lo hi none l h none hl hh (.inl ⟨rfl, rfl⟩) c1 c2 (by omega) (by simp) w, by simpa using shown cap (by omega)⟩
        · cases hm
      · rename_i q
        split at hv
        · rename_i hq
          have hrun := run_slice_ints hu hpos A ds.length cap lo hi mx l h (some q) hl hh hm c1 c2 (by omega) (fun q' hq' => by cases hq'; exact ⟨hmh rfl, hq.1, by omega⟩) w
          refine ⟨_, hrun, ?_⟩
          simp only [Option.getD_some] at hrun ⊢
          split at hv
          · rename_i hq0
            cases hv
            subst hq0
            have h0 : (h.getD ds.length).toNat = 0 := by omega
            have l0 : (l.getD 0).toNat = 0 := by omega
            rw [h0, l0]
            exact RelC.to_v ⟨A, by simp [sliced]⟩ rfl
          · cases hv
            exact shown q.toNat (by omega)
        · cases hv
    · cases hv
  · rename_i er k ver off len full
    have he' := he2 _ _ _ _ _ _ rfl
    obtain ⟨A, c, rfl, hlc, hA, hver, hfr⟩ := relV_rs hx
    simp only at hv
    split at hv
    · rename_i hc
      obtain ⟨c1, c2, c3⟩ := hc
      have shown : ∀ (cap' : Nat) (f' : Bool), (h.getD len).toNat ≤ cap' → cap' ≤ c → (f' = true → full = true ∧ cap' = c) → RelV P S σ st w (.rs er k ver (off + (l.getD 0).toNat) ((h.getD len).toNat - (l.getD 0).toNat) f') (sliced A (l.getD 0).toNat (h.getD len).toNat cap' (szOf P e)) := by
        intro cap' f' hle hcc hf'
        generalize hH : (h.getD len).toNat = H at *
        generalize hL : (l.getD 0).toNat = L at *
        have hLH : L ≤ H := by omega
        refine RelC.to_v ?_ rfl
        refine ⟨if cap' = L then A else A.map (·.add (L * szOf P e)), cap' - L, rfl, by omega, ?_, hver, ?_⟩
        · intro hpos'
          obtain ⟨a, ha⟩ := hA (by omega)
          subst ha
          split <;> exact ⟨_, rfl⟩
        · intro hv1 hv2
          obtain ⟨g0, gp, g1, g2⟩ := hfr hv1 hv2
          have hee := g0.trans he'
          refine ⟨g0, gp, fun hn => ?_, fun b cap hs => ?_⟩
          · obtain ⟨rfl, rfl⟩ := g1 hn
            exact ⟨by omega, by omega⟩
          · obtain ⟨q1, q2, q3⟩ := g2 b cap hs
            refine ⟨?_, by omega, fun hf => ?_⟩
            · by_cases hcl : cap' = L
              · exact .inl (by omega)
              · rcases q1 with q1 | rfl
                · exact .inl (by omega)
                · right
                  rw [if_neg hcl]
                  simp only [Option.map_some, add_none, hee]
                  congr 2
                  rw [Nat.add_mul]
            · obtain ⟨f1, f2⟩ := hf' hf
              have := q3 f1
              omega
      split at hv
      · cases hv
        rcases hm with ⟨rfl, _⟩ | ⟨_, _, _, hm⟩
        · exact ⟨_, run_slice_ints hu hpos A len c lo hi none l h none hl hh (.inl ⟨rfl, rfl⟩) c1 c2 (by omega) (by simp) w, by simpa using shown c full (by omega) (Nat.le_refl _) (fun h => ⟨h, rfl⟩)⟩
        · cases hm
      · rename_i q
        split at hv
        · rename_i hq
          cases hv
          exact ⟨_, run_slice_ints hu hpos A len c lo hi mx l h (some q) hl hh hm c1 c2 (by omega) (fun q' hq' => by cases hq'; exact ⟨hmh rfl, hq.1, by omega⟩) w, by simpa using shown q.toNat false (by omega) (by omega) (by simp)⟩
        · cases hv
    · cases hv
  · cases hv
end
end Go.Ev
