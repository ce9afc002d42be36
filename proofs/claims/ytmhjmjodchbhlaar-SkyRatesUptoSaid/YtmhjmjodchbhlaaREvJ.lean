/- The evaluator's soundness, ninth part: every operation but a call. -/
import Derived.Test.YtmhjmjodchbhlaaREvI
set_option linter.unusedVariables false
set_option linter.unusedSimpArgs false
set_option linter.unusedSectionVars false
namespace Go.Ev
open Go.RowKit

section
variable {P : Program} {B0 : Nat} {S : Nat → Prop} {σ : Sig} {st : Store} {w : World} {env : List V} {a : Act}

def Ran (P : Program) (B0 : Nat) (S : Nat → Prop) (σ : Sig) (st : Store) (w : World) (r : Result Value) (v : V) (st' : Store) : Prop :=
  ∃ (val : Value) (w' : World) (S' : Nat → Prop) (σ' : Sig), r = .ok val w' ∧ Inv P B0 S' σ' st' w' ∧ Evo S σ st w S' σ' st' w' ∧ Below B0 w w' ∧ RelV P S' σ' st' w' v val
theorem Ran.op {r : Sem Value} {v : V} {st' : Store} (h : Ran P B0 S σ st w (r.run P w) v st') : OpOk P B0 S σ st w ((do pure (.value (← r)) : Sem Next).run P w) v st' := by
  obtain ⟨val, w', S', σ', h1, h2, h3, h4, h5⟩ := h
  exact ⟨val, _, w', S', σ', by simp [h1], .inl rfl, h2, h3, h4, h5⟩
theorem Ran.same {r : Result Value} {v : V} (hI : Inv P B0 S σ st w) (h : ∃ val, r = .ok val w ∧ RelV P S σ st w v val) : Ran P B0 S σ st w r v st := by
  obtain ⟨val, h1, h2⟩ := h
  exact ⟨val, w, S, σ, h1, hI, Evo.refl .., Below.refl _ _, h2⟩

theorem run_zeroValue {t : TypeId} {i : TypeInfo} {z : Value} (hi : P.info? t = some i) (hz : i.zero = some z) (w : World) : (zeroValue t).run P w = .ok z w := by
  simp [zeroValue, typeInfo, hi, hz]

theorem alloc_ok {lv : Nat} {dst : Option Tmp} {t : TypeId} {v : V} {st' : Store} (hI : Inv P B0 S σ st w) (h : evStore P (evalT P env) lv dst st (.alloc t) = some (v, st')) :
    Ran P B0 S σ st w ((Instr.alloc t true (.tuple #[])).run P w) v st' := by
  simp only [evStore] at h
  split at h
  · rename_i d z hz
    cases h
    obtain ⟨i, zv, hi, hzv, hzok⟩ := zeroV_sound (S := S) (σ := σ) (st := st) (w := w) hz
    obtain ⟨σ', h1, h2, h3, h4⟩ := newVar_ok (k := (lv, d)) hI hzok.2.1 hzok.1
    refine ⟨_, _, S, σ', ?_, h1, h2, h3, h4⟩
    simp [Instr.alloc, run_zeroValue hi hzv, newVar, newRow]
  · cases h

theorem box_ok {lv : Nat} {dst : Option Tmp} {t : TypeId} {x : Operand} {v : V} {st' : Store} (hI : Inv P B0 S σ st w) (hrel : EnvRel P S σ st w env a.tmps) (h : evStore P (evalT P env) lv dst st (.box t x) = some (v, st')) :
    Ran P B0 S σ st w ((Instr.box t (a.eval x)).run P w) v st' := by
  have hx := evalT_rel hrel t x
  simp only [evStore] at h
  split at h
  · rename_i d
    split at h
    · rename_i ht
      cases h
      obtain ⟨hc, _⟩ := (hx.n (hasT_tup ht)).cells (hasT_und ht)
      obtain ⟨σ', h1, h2, h3, h4⟩ := newVar_ok (k := (lv, d)) hI ht hc
      refine ⟨_, _, S, σ', ?_, h1, h2, h3, h4⟩
      simp [Instr.box, newVar, newRow]
    · cases h
  · cases h

theorem run_places {fs : List Field} (h : ∀ f ∈ fs, 0 < szOf P f.type) (w : World) : ((fs.mapM fun f => do pure (f.offset, ← sizeOf f.type) : Sem (List (Nat × Nat)))).run P w = .ok (fs.map fun f => (f.offset, szOf P f.type)) w := by
  induction fs with
  | nil => rfl
  | cons f fs ih =>
    rw [List.mapM_cons]
    simp only [Sem.run_bind, run_sizeOf_pos (h f (by simp)), Result.andThen_ok, Sem.run_pure, ih (fun g hg => h g (by simp [hg])), List.map_cons]
theorem run_mapM_arr {α β : Type} (f : α → Sem β) (xs : Array α) (l : List β) (w : World) (h : (xs.toList.mapM f).run P w = .ok l w) : (xs.mapM f).run P w = .ok l.toArray w := by
  have h1 : (Array.toList <$> xs.mapM f) = xs.toList.mapM f := Array.toList_mapM
  rw [← h1] at h
  simp only [Sem.run_map] at h
  cases hr : (xs.mapM f).run P w with
  | ok r w' =>
    rw [hr] at h
    simp only [Result.andThen_ok, Result.ok.injEq] at h
    obtain ⟨rfl, rfl⟩ := h
    rfl
  | halt x w' => rw [hr] at h; simp at h

theorem build_ok {lv : Nat} {dst : Option Tmp} {t : TypeId} {parts : Array (Nat × Operand)} {v : V} {st' : Store} (hI : Inv P B0 S σ st w) (hrel : EnvRel P S σ st w env a.tmps)
    (h : evStore P (evalT P env) lv dst st (.build t parts) = some (v, st')) : Ran P B0 S σ st w ((Instr.build t (parts.map fun (i, x) => (i, a.eval x))).run P w) v st' := by
  simp only [evStore] at h
  split at h
  · rename_i t' zs hz
    split at h
    · rename_i ht
      subst ht
      simp only [Option.map_eq_some_iff] at h
      obtain ⟨vs, hvs, h⟩ := h
      cases h
      simp only [Option.bind_eq_some_iff] at hz
      obtain ⟨z, hz, hap⟩ := hz
      obtain ⟨i, zv, hi, hzv, hzok⟩ := zeroV_sound (S := S) (σ := σ) (st := st) (w := w) hz
      obtain ⟨css, hcs, hcomp, hrl⟩ : ∃ css : List (List Value), zv.cells.toList = css.flatten ∧ comps P t' = some (css.map List.length) ∧ RelC.rels P S σ st w zs css := by
        unfold aggParts at hap
        split at hap
        · cases hap
          obtain ⟨css, g1, g2, g3⟩ := hzok.1
          exact ⟨css, g1, g2, rels_map g3⟩
        · cases hap
          obtain ⟨css, g1, g2, g3⟩ := hzok.1
          exact ⟨css, g1, g2, g3⟩
        · cases hap
      have hρ : ∀ t o, RelV P S σ st w (evalT P env t o) (a.eval o) := fun t o => evalT_rel hrel t o
      have hparts : (parts.map fun (i, x) => (i, a.eval x)).toList = parts.toList.map fun x => (x.1, a.eval x.2) := by simp
      refine Ran.same hI ?_
      rcases comps_cases hcomp with ⟨fs, hu⟩ | ⟨n, e, hu⟩
      · obtain ⟨hl, ho, hs, _⟩ := comps_struct hu hcomp
        obtain ⟨o1, o2⟩ := offsOk_spec _ _ ho
        obtain ⟨cells', css', g1, g2, g3, g4⟩ := setParts_sound (place := fun i => ((fs.toList.map fun f => (f.offset, szOf P f.type)).toArray)[i]?) hρ hcomp (by
          intro i e he hil
          rw [hl] at hil ⊢
          simp at hil
          have hfi : fs.toList[i]? = some fs.toList[i] := List.getElem?_eq_getElem (by simpa using hil)
          have := o2 i _ hfi
          unfold compT compTs at he
          rw [hu, nth_eq] at he
          simp only [List.getElem?_map, hfi, Option.map_some, Option.some.injEq] at he
          simp only [List.getElem?_toArray, List.getElem?_map, hfi, Option.map_some]
          rw [this, he]; simp) hvs hcs rfl hrl
        refine ⟨.agg cells', ?_, ?_⟩
        · unfold Instr.build
          simp only [Sem.run_bind, run_zeroValue hi hzv, run_underlying hu, Result.andThen_ok]
          rw [run_mapM_arr _ fs _ w (run_places o1 w)]
          simp only [Result.andThen_ok, hparts, g1, Sem.run_pure]
        · have hr := mkAgg_rel (t := t') (by rw [g3]; exact hcomp) g4
          have hm : (mkAgg t' vs).isAgg = true := by unfold mkAgg; split <;> rfl
          exact RelN.to_v (.inr (.inl ⟨hm, css'.flatten, by rw [← g2], hr⟩))
      · obtain ⟨hl, hpos, h2, hs⟩ := comps_array hu hcomp
        obtain ⟨cells', css', g1, g2, g3, g4⟩ := setParts_sound (place := fun i => some (i * szOf P e, szOf P e)) hρ hcomp (by
          intro i e' he hil
          rw [hl] at hil ⊢
          simp at hil
          unfold compT compTs at he
          rw [hu, nth_eq] at he
          simp [List.getElem?_replicate, hil] at he
          subst he
          rw [List.take_replicate, sum_replicate', Nat.min_eq_left (by omega)]) hvs hcs rfl hrl
        refine ⟨.agg cells', ?_, ?_⟩
        · unfold Instr.build
          simp only [Sem.run_bind, run_zeroValue hi hzv, run_underlying hu, Result.andThen_ok, run_sizeOf_pos hpos, hparts, g1, Sem.run_pure]
        · have hr := mkAgg_rel (t := t') (by rw [g3]; exact hcomp) g4
          have hm : (mkAgg t' vs).isAgg = true := by unfold mkAgg; split <;> rfl
          exact RelN.to_v (.inr (.inl ⟨hm, css'.flatten, by rw [← g2], hr⟩))
    · cases h
  · cases h

theorem buildSlice_ok {lv : Nat} {dst : Option Tmp} {t : TypeId} {len : Nat} {parts : Array (Nat × Operand)} {v : V} {st' : Store} (hI : Inv P B0 S σ st w) (hrel : EnvRel P S σ st w env a.tmps)
    (h : evStore P (evalT P env) lv dst st (.buildSlice t len parts) = some (v, st')) : Ran P B0 S σ st w ((Instr.buildSlice t len (parts.map fun (i, x) => (i, a.eval x))).run P w) v st' := by
  simp only [evStore] at h
  split at h
  · rename_i d e hk
    split at h
    · rename_i z hz
      split at h
      · rename_i hc
        split at h
        · rename_i vs hvs
          cases h
          obtain ⟨hu, _, hpos, _⟩ := tk_sl hk
          obtain ⟨i, zv, hi, hzv, hzok⟩ := zeroV_sound (S := S) (σ := σ) (st := st) (w := w) hz
          have hρ : ∀ t o, RelV P S σ st w (evalT P env t o) (a.eval o) := fun t o => evalT_rel hrel t o
          have hparts : (parts.map fun (i, x) => (i, a.eval x)).toList = parts.toList.map fun x => (x.1, a.eval x.2) := by simp
          have hzl : zv.cells.toList.length = szOf P e := hzok.2.2
          have hzs : zv.cells.size = szOf P e := by simpa using hzl
          obtain ⟨cells', css', g1, g2, g3, g4⟩ := setElems_sound (n := len) (cells := (Array.range (len * zv.cells.size)).map (fun i => zv.cells[i % zv.cells.size]!)) hρ hvs (zeros_arr zv.cells len (by omega)) (by simp [hzs]) (rels_replicate hzok.1 len)
          have hcl : css'.length = len := by have := congrArg List.length g3; simpa using this
          have hcs : ∀ c ∈ css', c.length = szOf P e := by
            intro c hc'
            have : c.length ∈ css'.map List.length := List.mem_map.2 ⟨c, hc', rfl⟩
            rw [g3] at this
            exact List.eq_of_mem_replicate this
          have hvl := rels_length g4
          have hfl : css'.flatten.length = len * szOf P e := by rw [length_flatten_eq hcs, hcl]
          have hsz : cells'.size = len * szOf P e := by rw [← hfl, ← g2]; simp
          have hlm : len ≤ maxLen := by
            have : len * 1 ≤ len * szOf P e := Nat.mul_le_mul_left _ hpos
            simp only [maxLen]; omega
          obtain ⟨h1, h2, h3⟩ := newBlk_ok (k := (lv, d)) (e := e) (vs := vs) (css := css') (cur := cells') (cap := len) hI rfl (Below.refl _ _) hpos hcs g4 hsz (by omega) hlm (by
            rw [g2, List.take_of_length_le (by rw [hfl, ← hvl, hcl]; exact Nat.le_refl _)])
          refine ⟨_, _, S, _, ?_, h1, h2, h3, rs_rel (b := w.heap.size) (cap := len) hpos (by simp [newBlk, upd_same]) (by simp [newBlk, upd_same]) (by simp [updS_same]) (Nat.le_refl _)⟩
          unfold Instr.buildSlice
          simp only [Sem.run_bind, run_underlying hu, Result.andThen_ok, run_sizeOf_pos hpos]
          rw [if_neg (by omega)]
          by_cases hne : len * szOf P e = 0
          · have hl0 : len = 0 := by
              rcases Nat.eq_zero_or_pos len with h | h
              · exact h
              · have := Nat.mul_pos h hpos; omega
            subst hl0
            simp only [Sem.run_bind, Sem.run_pure, Result.andThen_ok, hne, if_true]
            have e0 : ((Array.range 0).map fun i => (#[] : Array Value)[i % (#[] : Array Value).size]!) = (Array.range (0 * zv.cells.size)).map fun i => zv.cells[i % zv.cells.size]! := by simp
            rw [e0]
            simp only [hparts, g1]
            simp [newRow]
          simp only [Sem.run_bind, Sem.run_pure, Result.andThen_ok, hne, if_false, run_zeroValue hi hzv]
          rw [← hzs] at g1 ⊢
          simp only [hparts, g1]
          simp [newRow]
        · cases h
      · cases h
    · cases h
  · cases h

theorem makeSlice_ok {lv : Nat} {dst : Option Tmp} {t : TypeId} {l c : Operand} {v : V} {st' : Store} (hI : Inv P B0 S σ st w) (hrel : EnvRel P S σ st w env a.tmps)
    (h : evStore P (evalT P env) lv dst st (.makeSlice t l c) = some (v, st')) : Ran P B0 S σ st w ((Instr.makeSlice t (a.eval l) (a.eval c)).run P w) v st' := by
  have hl := evalT_rel hrel 0 l
  have hc := evalT_rel hrel 0 c
  simp only [evStore] at h
  split at h
  · rename_i d e n m hk hv1 hv2
    rw [hv1] at hl; rw [hv2] at hc
    rw [relV_int hl, relV_int hc]
    split at h
    · rename_i z hz
      split at h
      · rename_i hq
        cases h
        obtain ⟨h0, hnm, hb, hm⟩ := hq
        simp only [maxRow] at hb hm
        obtain ⟨hu, _, hpos, _⟩ := tk_sl hk
        obtain ⟨i, zv, hi, hzv, hzok⟩ := zeroV_sound (S := S) (σ := σ) (st := st) (w := w) hz
        have hby := bytesOf_info hi
        have hzl : zv.cells.toList.length = szOf P e := hzok.2.2
        have hzs : zv.cells.size = szOf P e := by simpa using hzl
        have w1 : IntKind.i64.wrap n = n := IntWalk.i64_in n (by omega)
        have w2 : IntKind.i64.wrap m = m := IntWalk.i64_in m (by omega)
        have hbi : (i.bytes : Int) * m ≤ 281474976710656 := by
          have e1 : ((m.toNat * i.bytes : Nat) : Int) ≤ 140737488355328 := by rw [← hby]; generalize m.toNat * P.bytesOf e = q at hb ⊢; omega
          have e2 : ((m.toNat * i.bytes : Nat) : Int) = m * i.bytes := by rw [Int.natCast_mul, Int.toNat_of_nonneg (by omega)]
          rw [Int.mul_comm]; omega
        have hcells : (Array.map (fun x => (if m.toNat * szOf P e = 0 then (#[] : Array Value) else zv.cells)[x % (if m.toNat * szOf P e = 0 then (#[] : Array Value) else zv.cells).size]!) (Array.range (m.toNat * szOf P e))).toList = (List.replicate m.toNat zv.cells.toList).flatten := by
          by_cases hm0 : m.toNat * szOf P e = 0
          · have : m.toNat = 0 := by rcases Nat.mul_eq_zero.1 hm0 with h | h <;> omega
            simp [this]
          · rw [if_neg hm0]
            have := zeros_arr zv.cells m.toNat (by omega)
            rw [hzs] at this ⊢
            exact this
        generalize hcur : Array.map (fun x => (if m.toNat * szOf P e = 0 then (#[] : Array Value) else zv.cells)[x % (if m.toNat * szOf P e = 0 then (#[] : Array Value) else zv.cells).size]!) (Array.range (m.toNat * szOf P e)) = cur at hcells
        have hcs : ∀ k, ∀ c ∈ List.replicate k zv.cells.toList, c.length = szOf P e := fun k c hc => by rw [List.eq_of_mem_replicate hc]; exact hzl
        have hsz : cur.size = m.toNat * szOf P e := by
          have := congrArg List.length hcells
          rw [length_flatten_eq (hcs _)] at this
          simpa using this
        obtain ⟨h1, h2, h3⟩ := newBlk_ok (k := (lv, d)) (e := e) (vs := List.replicate n.toNat z) (css := List.replicate n.toNat zv.cells.toList) (cur := cur) (cap := m.toNat) hI rfl (Below.refl _ _) hpos (hcs _) (rels_replicate hzok.1 _) hsz
          (by simp; omega) (by simp only [maxLen]; omega) (by
            rw [hcells]
            have e1 : (List.replicate m.toNat zv.cells.toList) = List.replicate n.toNat zv.cells.toList ++ List.replicate (m.toNat - n.toNat) zv.cells.toList := by
              rw [List.replicate_append_replicate]; congr 1; omega
            rw [e1, List.flatten_append]
            exact List.take_left' (by rw [length_flatten_eq (hcs _)]; simp))
        refine ⟨_, _, S, _, ?_, h1, h2, h3, rs_rel (b := w.heap.size) (cap := m.toNat) hpos (by simp [newBlk, upd_same]) (by simp [newBlk, upd_same]) (by simp [updS_same]) (by omega)⟩
        unfold Instr.makeSlice
        simp only [Sem.run_bind, run_underlying hu, Result.andThen_ok, asInt, asIntOf, Sem.run_pure, typeInfo, run_program, hi, w1, w2]
        have hg : ¬ ((decide (m < 0) || decide (↑i.bytes * m > 2 ^ 48) || decide (n < 0) || decide (n > m)) = true) := by
          simp only [Bool.or_eq_true, decide_eq_true_eq]
          omega
        rw [if_neg hg]
        simp only [Sem.run_bind, run_askRoom, run_sizeOf_pos hpos, Result.andThen_ok]
        subst hcur
        by_cases hm0 : m.toNat * szOf P e = 0
        · simp only [hm0, if_true, Sem.run_bind, Sem.run_pure, Result.andThen_ok]
          simp [newRow]
        · simp only [hm0, if_false, Sem.run_bind, Sem.run_pure, Result.andThen_ok, run_zeroValue hi hzv]
          simp [newRow]
      · cases h
    · cases h
  · cases h
end
end Go.Ev
