/- Parts of one proof, joined: EvK, EvL, EvM. -/
import Derived.Test.YtnojehmbiceceaaMCatalogRows3
import Derived.Orders
section
set_option linter.unusedVariables false
set_option linter.unusedSimpArgs false
set_option linter.unusedSectionVars false
namespace Go.Ev
open Go.RowKit

section
variable {P : Program} {B0 : Nat} {S : Nat → Prop} {σ : Sig} {st : Store} {w : World} {env : List V} {a : Act}

theorem load_sound {lv : Nat} {dst : Option Tmp} {t : TypeId} {x : Operand} {v : V} {st' : Store} (hI : Inv P B0 S σ st w) (hrel : EnvRel P S σ st w env a.tmps)
    (h : evStore P (evalT P env) lv dst st (.load t x) = some (v, st')) : Ran P B0 S σ st w ((Instr.loadAt t (a.eval x)).run P w) v st' := by
  have hx := evalT_rel hrel 0 x
  simp only [evStore] at h
  split at h
  · rename_i e y hv
    rw [hv] at hx
    split at h
    · rename_i ht
      cases h
      obtain ⟨b, o, xs, hA, hb, hat, hf⟩ := relV_dp hx
      rw [hA]
      have hr : RelC P S σ st w (.d y) xs := hf
      refine Ran.same hI ⟨_, ?_, (valOf_rel hr).to_v⟩
      simp only [Instr.loadAt, Instr.sureAddr, Sem.run_bind, Sem.run_pure, Result.andThen_ok]
      exact run_loadVar ht hr hat.cell
    · cases h
  · rename_i k ver i path hv
    rw [hv] at hx
    split at h
    · rename_i hc
      obtain ⟨rfl, hl⟩ := hc
      split at h
      · rename_i y hy
        split at h
        · rename_i z hz
          split at h
          · rename_i ht
            cases h
            obtain ⟨A, hA, _, hfr⟩ := relV_p hx
            rw [hA]
            rw [nth_eq] at hy
            obtain ⟨val, h1, h2⟩ := load_ok hI hl hy hz ht (hfr rfl hl)
            refine Ran.same hI ⟨val, ?_, h2⟩
            simp only [Instr.loadAt, Instr.sureAddr, Sem.run_bind, Sem.run_pure, Result.andThen_ok]
            exact h1
          · cases h
        · cases h
      · cases h
    · cases h
  · cases h

theorem store_sound {lv : Nat} {dst : Option Tmp} {t : TypeId} {x y : Operand} {v : V} {st' : Store} (hI : Inv P B0 S σ st w) (hrel : EnvRel P S σ st w env a.tmps)
    (h : evStore P (evalT P env) lv dst st (.store t x y) = some (v, st')) : OpOk P B0 S σ st w ((do Instr.storeAt t (a.eval x) (a.eval y); pure .skip : Sem Next).run P w) v st' := by
  have hx := evalT_rel hrel 0 x
  have hy := evalT_rel hrel t y
  simp only [evStore] at h
  split at h
  · rename_i k ver i path hv
    rw [hv] at hx
    split at h
    · rename_i hc
      obtain ⟨rfl, hl⟩ := hc
      split at h
      · rename_i z hz
        split at h
        · rename_i old hold
          split at h
          · rename_i ht
            split at h
            · rename_i v' hs
              cases h
              obtain ⟨A, hA, _, hfr⟩ := relV_p hx
              rw [hA]
              rw [nth_eq] at hz
              obtain ⟨w', h1, h2, h3, h4⟩ := store_ok hI hl hz hold ht.1 ht.2 hy hs (hfr rfl hl)
              refine ⟨undef, .skip, w', S, σ, ?_, .inr ⟨rfl, rfl⟩, h2, h3, h4, ⟨[], rfl, rfl⟩⟩
              simp only [Instr.storeAt, Instr.sureAddr, Sem.run_bind, Sem.run_pure, Result.andThen_ok, h1]
            · cases h
          · cases h
        · cases h
      · cases h
    · cases h
  · cases h

/-- Is it a call of a function? -/
def isCall : Op → Bool
  | .call { callee := .value _, .. } => true
  | _ => false

theorem pureO_inv {o : Option V} {v : V} {st st' : Store} (h : pureO st o = some (v, st')) : o = some v ∧ st' = st := by
  cases o with
  | none => cases h
  | some x => cases h; exact ⟨rfl, rfl⟩
theorem map_toList_zip {os : List Operand} : (os.toArray.map a.eval).toList = os.map a.eval := by simp

theorem op_sound {Γ : Specs} {call : Caller} {lv : Nat} {o : Oper} {v : V} {st' : Store} (hI : Inv P B0 S σ st w) (hrel : EnvRel P S σ st w env a.tmps) (hc : isCall o.op = false)
    (h : evOp P Γ call lv o.dst o.type env st o.op = some (v, st')) : OpOk P B0 S σ st w ((execOp a.eval o).run P w) v st' := by
  obtain ⟨dst, op, type, pos, after, guard⟩ := o
  have hpure : ∀ {x : Option V} {s : Sem Value}, pureO st x = some (v, st') → (x = some v → ∃ val, s.run P w = .ok val w ∧ RelV P S σ st w v val) → OpOk P B0 S σ st w ((do pure (.value (← s)) : Sem Next).run P w) v st' := by
    intro x s hp hs
    obtain ⟨rfl, rfl⟩ := pureO_inv hp
    obtain ⟨val, h1, h2⟩ := hs rfl
    exact ⟨val, _, w, S, σ, by simp [h1], .inl rfl, hI, Evo.refl .., Below.refl _ _, h2⟩
  simp only at h hc ⊢
  cases op with
  | move x =>
    rw [evOp_move] at h
    cases h
    exact OpOk.same hI rfl (evalT_rel hrel _ _)
  | assign x =>
    rw [evOp_assign] at h
    cases h
    exact OpOk.same hI rfl (evalT_rel hrel _ _)
  | pick c x y =>
    rw [evOp_pick] at h
    obtain ⟨h, rfl⟩ := pureO_inv h
    simp only [evPure] at h
    split at h
    · rename_i q hq
      cases h
      have hcv := evalT_rel hrel 0 c
      rw [hq] at hcv
      refine OpOk.same hI (val := if q then a.eval x else a.eval y) ?_ ?_
      · simp only [execOp, relV_bool hcv, asBool, Sem.run_bind, Sem.run_pure, Result.andThen_ok]
      · cases q <;> exact evalT_rel hrel _ _
    · cases h
  | alloc t => exact (alloc_ok (env := env) (lv := lv) (dst := dst) hI h).op
  | box t x => exact (box_ok (lv := lv) (dst := dst) hI hrel h).op
  | build t ps => exact (build_ok (lv := lv) (dst := dst) hI hrel h).op
  | buildSlice t n ps => exact (buildSlice_ok (lv := lv) (dst := dst) hI hrel h).op
  | load t x => exact (load_sound (lv := lv) (dst := dst) hI hrel h).op
  | store t x y => exact store_sound (lv := lv) (dst := dst) hI hrel h
  | makeMap t r => exact (makeMap_ok (lv := lv) (dst := dst) hI hrel h).op
  | lookup t x i ok => exact (lookup_ok hI hrel (evOp_lookup .. ▸ h)).op
  | mapUpdate t m k x => exact put_ok hI hrel (evOp_mapUpdate .. ▸ h)
  | insert t m k x => exact put_ok hI hrel (evOp_insert .. ▸ h)
  | nilCheck x =>
    rw [evOp_nilCheck] at h
    obtain ⟨h, rfl⟩ := pureO_inv h
    have hx := evalT_rel hrel 0 x
    simp only [evPure] at h
    split at h
    · rename_i k ver i path hv
      rw [hv] at hx
      cases h
      obtain ⟨A, hA, _⟩ := relV_p hx
      exact OpOk.same hI (val := a.eval x) (by simp only [execOp]; rw [hA]; rfl) hx
    · rename_i y hv
      rw [hv] at hx
      cases h
      obtain ⟨b, ob, xs, hA, _⟩ := relV_dp hx
      exact OpOk.same hI (val := a.eval x) (by simp only [execOp]; rw [hA]; rfl) hx
    · rename_i f caps hv
      rw [hv] at hx
      cases h
      obtain ⟨vals, hA, _⟩ := relV_one hx rfl (by simp) (by simp)
      simp at hA
      exact OpOk.same hI (val := a.eval x) (by simp only [execOp]; rw [hA]; rfl) hx
    · cases h
  | binOp op t x y u => exact hpure (evOp_binOp .. ▸ h) fun h => binO_sound h hrel
  | unOp op t x => exact hpure (evOp_unOp .. ▸ h) fun h => un_sound h (evalT_rel hrel _ _)
  | convert s t x => exact hpure (evOp_convert .. ▸ h) fun h => conv_sound h (evalT_rel hrel _ _)
  | makeFunc f first caps =>
    rw [evOp_makeFunc] at h
    obtain ⟨h1, rfl⟩ := pureO_inv h
    clear h hpure
    cases f with
    | func f =>
      simp only [evPure] at h1
      split at h1
      · rename_i hq
        cases h1
        simp only [Bool.and_eq_true, Array.isEmpty_iff] at hq
        obtain ⟨rfl, hcap⟩ := hq
        refine OpOk.same hI (val := .func (.func f) #[] (caps.map a.eval)) (by simp [execOp, Instr.makeFunc]) (RelC.to_v ⟨caps.toList.map a.eval, by rw [← Array.toList_map, Array.toArray_toList], ?_⟩ rfl)
        refine capsOk_rel hcap ?_ (by simp)
        intro x hx
        rw [List.zip_map', List.mem_map] at hx
        obtain ⟨o, _, rfl⟩ := hx
        exact evalT_rel hrel 0 o
      · cases h1
    | _ => exact absurd h1 (by simp [evPure])
  | makeSlice t l c => exact (makeSlice_ok (lv := lv) (dst := dst) hI hrel h).op
  | slice t x l q m => exact hpure (evOp_slice .. ▸ h) fun h => slice_ok hrel h
  | fieldAddr t x f => exact hpure (evOp_fieldAddr .. ▸ h) fun h => fieldAddr_sound hrel h
  | field t x f => exact hpure (evOp_field .. ▸ h) fun h => field_ok hrel h
  | indexAddr t x i => exact hpure (evOp_indexAddr .. ▸ h) fun h => indexAddr_sound hrel h
  | index t x i => exact hpure (evOp_index .. ▸ h) fun h => index_ok hrel h
  | extract x i => exact hpure (evOp_extract .. ▸ h) fun h => extract_ok hrel h
  | call c =>
    obtain ⟨callee, args, ts⟩ := c
    cases callee with
    | value f => simp [isCall] at hc
    | invoke r m => simp [evOp] at h
    | builtin b =>
      have hex : (execOp a.eval ⟨dst, .call ⟨.builtin b, args, ts⟩, type, pos, after, guard⟩) = builtin b ts type (args.map fun | .const _ => true | _ => false) (args.map a.eval) := by
        simp only [execOp, resolve, invoke]
        rfl
      rw [hex]
      have hpb : ∀ {b' : Builtin}, b' = b → pureO st (evPureB P b' ts.toList (evArgs P env ts.toList args.toList)) = some (v, st') → OpOk P B0 S σ st w ((builtin b ts type (args.map fun | .const _ => true | _ => false) (args.map a.eval)).run P w) v st' := by
        intro b' hb hp
        subst hb
        obtain ⟨hp2, rfl⟩ := pureO_inv hp
        obtain ⟨r, h1, h2⟩ := builtin_sound (vals := args.toList.map a.eval) (ty := type) (cs := args.map fun | .const _ => true | _ => false) hp2 (zip_swap (evArgs_rel hrel _ _)) (by simp [evArgs_length])
        have e1 : ts.toList.toArray = ts := by simp
        have e2 : (args.toList.map a.eval).toArray = args.map a.eval := by rw [← Array.toList_map, Array.toArray_toList]
        rw [e1, e2] at h1
        exact OpOk.same hI h1 h2
      by_cases hlen : b = .len
      · subst hlen
        have h' : pureO st (evLen P Γ st ts.toList (evArgs P env ts.toList args.toList)) = some (v, st') := h
        obtain ⟨hp2, hst⟩ := pureO_inv h'
        subst hst
        have hz := zip_swap (evArgs_rel hrel ts.toList args.toList)
        unfold evLen at hp2
        split at hp2
        · rename_i k ver hx
          split at hp2
          · rename_i t ht
            split at hp2
            · rename_i ke hm
              split at hp2
              · rename_i hc
                cases hp2
                rw [hx] at hz
                have hal : args.toList.length = 1 := by have := evArgs_length (P := P) (env := env) ts.toList args.toList; rw [hx] at this; simpa using this.symm
                obtain ⟨y, hy⟩ : ∃ y, args.toList = [y] := List.length_eq_one_iff.1 hal
                rw [hy] at hz
                obtain ⟨r, hr1, _, hfr⟩ := relV_mp (hz (.mp k ver, a.eval y) (by simp))
                obtain ⟨h0, cap, hσ⟩ := hfr hc.2.1.symm hc.2.2
                obtain ⟨es, clock, e1, e2⟩ := map_at hI hc.2.2 h0 hσ
                have hu := mapT_spec (k := ke.1) (e := ke.2) (t := t) (by rw [hm])
                have ea : args = #[y] := by rw [← Array.toArray_toList (xs := args), hy]
                have et : ts = #[t] := by rw [← Array.toArray_toList (xs := ts), ht]
                subst ea; subst et
                refine OpOk.same hI (val := Value.int .i64 es.size) ?_ ?_
                · have hr2 : a.eval y = Value.map (some r) := hr1
                  have hm2 : Array.map a.eval #[y] = #[Value.map (some r)] := by simp [hr2]
                  rw [hm2]
                  simp [builtin, Builtin.len_, run_underlying hu, goInt, MapKept.run_getObj_map e1]
                · have := maprel_length e2
                  have e3 : (st' k).vs.length / 2 = es.size := by rw [this]; simp
                  rw [e3]; exact int_rel _ _
              · cases hp2
            · cases hp2
          · cases hp2
        · exact hpb rfl (by rw [hp2]; rfl)
      cases b <;> first
        | exact absurd rfl hlen
        | exact hpb rfl h
        | (-- append
           have h' : evStore P (evalT P env) lv dst st (.call ⟨.builtin .append, args, ts⟩) = some (v, st') := h
           have hlen : ∃ s x t, args = #[s, x] ∧ ts = #[t, t] := by
             simp only [evStore] at h'
             split at h'
             · rename_i s x t t' d h1 h2
               split at h'
               · split at h'
                 · rename_i hq
                   obtain ⟨rfl, _⟩ := hq
                   exact ⟨s, x, t', by rw [← Array.toArray_toList (xs := args), h1], by rw [← Array.toArray_toList (xs := ts), h2]⟩
                 · cases h'
               · cases h'
             · cases h'
           obtain ⟨s, x, t, rfl, rfl⟩ := hlen
           obtain ⟨val, w', S', σ', h1, h2, h3, h4, h5⟩ := append_ok (ty := type) (e := 0) hI hrel h'
           refine ⟨val, .value val, w', S', σ', ?_, .inl rfl, h2, h3, h4, h5⟩
           simp [builtin, h1])
        | (-- clear
           have h' : evStore P (evalT P env) lv dst st (.call ⟨.builtin .clear, args, ts⟩) = some (v, st') := h
           have hlen : ∃ s t, args = #[s] ∧ ts = #[t] := by
             simp only [evStore] at h'
             split at h'
             · rename_i s t h1 h2
               exact ⟨s, t, by rw [← Array.toArray_toList (xs := args), h1], by rw [← Array.toArray_toList (xs := ts), h2]⟩
             · cases h'
           obtain ⟨s, t, rfl, rfl⟩ := hlen
           obtain ⟨val, w', S', σ', h1, h2, h3, h4, h5⟩ := clear_ok (ty := type) hI hrel h'
           refine ⟨val, .value val, w', S', σ', ?_, .inl rfl, h2, h3, h4, h5⟩
           simp [builtin, h1])
  | _ => simp [evOp] at h
end
end Go.Ev
end
section
set_option linter.unusedVariables false
set_option linter.unusedSimpArgs false
set_option linter.unusedSectionVars false
namespace Go.Ev
open Go.RowKit

section
variable {P : Program} {Γ : Specs} {call : Caller} {lv : Nat}

/-- Two frames agree on the operands. -/
def Same (P : Program) (env env' : List V) (op : Op) : Prop := ∀ x ∈ op.operands.toList, ∀ t, evalT P env t x = evalT P env' t x

theorem evArgs_congr {env env' : List V} : ∀ (ts : List TypeId) (os : List Operand), (∀ x ∈ os, ∀ t, evalT P env t x = evalT P env' t x) → evArgs P env ts os = evArgs P env' ts os
  | [], [], _ => rfl
  | _ :: _, [], _ => rfl
  | [], o :: os, h => by simp only [evArgs]; rw [h o (by simp), evArgs_congr [] os (fun x hx => h x (by simp [hx]))]
  | t :: ts, o :: os, h => by simp only [evArgs]; rw [h o (by simp), evArgs_congr ts os (fun x hx => h x (by simp [hx]))]
theorem setParts_congr {ρ ρ' : TypeId → Operand → V} {t : TypeId} : ∀ (ps : List (Nat × Operand)) (vs : List V), (∀ x ∈ ps, ∀ t, ρ t x.2 = ρ' t x.2) → setParts P ρ t vs ps = setParts P ρ' t vs ps
  | [], _, _ => rfl
  | (i, o) :: r, vs, h => by
    simp only [setParts]
    have ho := fun t => h (i, o) (by simp) t
    simp only at ho
    cases compT P t i with
    | none => rfl
    | some e => simp only [ho e]; rw [setParts_congr r _ (fun x hx => h x (by simp [hx]))]
theorem setElems_congr {ρ ρ' : TypeId → Operand → V} {e : TypeId} : ∀ (ps : List (Nat × Operand)) (vs : List V), (∀ x ∈ ps, ∀ t, ρ t x.2 = ρ' t x.2) → setElems P ρ e vs ps = setElems P ρ' e vs ps
  | [], _, _ => rfl
  | (i, o) :: r, vs, h => by
    simp only [setElems]
    have ho := fun t => h (i, o) (by simp) t
    simp only at ho
    simp only [ho e]; rw [setElems_congr r _ (fun x hx => h x (by simp [hx]))]
theorem optMap_congr {env env' : List V} {o : Option Operand} (h : ∀ x ∈ o.toList, ∀ t, evalT P env t x = evalT P env' t x) : o.map (evalT P env 0) = o.map (evalT P env' 0) := by
  cases o with
  | none => rfl
  | some x => simp [h x (by simp) 0]

theorem evOp_congr {dst : Option Tmp} {ty : TypeId} {env env' : List V} {st : Store} {op : Op} (h : Same P env env' op) : evOp P Γ call lv dst ty env st op = evOp P Γ call lv dst ty env' st op := by
  unfold Same at h
  cases op with
  | move x => simp only [evOp_move]; rw [h x (by simp [Op.operands])]
  | assign x => simp only [evOp_assign]; rw [h x (by simp [Op.operands])]
  | pick c a b =>
    simp only [evOp_pick, evPure]
    rw [h c (by simp [Op.operands]), h a (by simp [Op.operands]), h b (by simp [Op.operands])]
  | alloc t => rfl
  | box t x => simp only [evOp_box, evStore]; rw [h x (by simp [Op.operands])]
  | build t ps =>
    simp only [evOp_build, evStore]
    have : ∀ zs, setParts P (evalT P env) t zs ps.toList = setParts P (evalT P env') t zs ps.toList := fun zs => setParts_congr _ _ fun x hx t => h x.2 (by simp only [Op.operands, List.mem_map]; exact ⟨x, hx, rfl⟩) t
    simp only [this]
  | buildSlice t n ps =>
    simp only [evOp_buildSlice, evStore]
    have : ∀ e zs, setElems P (evalT P env) e zs ps.toList = setElems P (evalT P env') e zs ps.toList := fun e zs => setElems_congr _ _ fun x hx t => h x.2 (by simp only [Op.operands, List.mem_map]; exact ⟨x, hx, rfl⟩) t
    simp only [this]
  | load t x => simp only [evOp_load, evStore]; rw [h x (by simp [Op.operands])]
  | store t a x => simp only [evOp_store, evStore]; rw [h a (by simp [Op.operands]), h x (by simp [Op.operands])]
  | makeMap t r =>
    simp only [evOp_makeMap, evStore]
    rw [optMap_congr (o := r) (env := env) (env' := env') (fun y hy => h y (by simpa [Op.operands] using hy))]
  | lookup t x i ok => simp only [evOp_lookup]; rw [h x (by simp [Op.operands]), h i (by simp [Op.operands])]
  | mapUpdate t m k x => simp only [evOp_mapUpdate]; rw [h m (by simp [Op.operands]), h k (by simp [Op.operands]), funext (fun e => h x (by simp [Op.operands]) e)]
  | insert t m k x => simp only [evOp_insert]; rw [h m (by simp [Op.operands]), h k (by simp [Op.operands]), funext (fun e => h x (by simp [Op.operands]) e)]
  | nilCheck x => simp only [evOp_nilCheck, evPure]; rw [h x (by simp [Op.operands])]
  | binOp op t x y u => simp only [evOp_binOp, evBinO]; rw [h x (by simp [Op.operands]), h y (by simp [Op.operands])]
  | unOp op t x => simp only [evOp_unOp]; rw [h x (by simp [Op.operands])]
  | convert s t x => simp only [evOp_convert]; rw [h x (by simp [Op.operands])]
  | makeFunc f a c =>
    simp only [evOp_makeFunc]
    cases f with
    | func f =>
      simp only [evPure]
      have : c.toList.map (evalT P env 0) = c.toList.map (evalT P env' 0) := List.map_congr_left fun x hx => h x (by simp [Op.operands]; right; simpa using hx) 0
      rw [this]
    | _ => rfl
  | makeSlice t l c => simp only [evOp_makeSlice, evStore]; rw [h l (by simp [Op.operands]), h c (by simp [Op.operands])]
  | slice t x l q m =>
    simp only [evOp_slice, evPure]
    rw [h x (by simp [Op.operands]), optMap_congr (o := l) (env := env) (env' := env') (fun y hy => h y (by simp [Op.operands] at hy ⊢; simp [hy])),
      optMap_congr (o := q) (env := env) (env' := env') (fun y hy => h y (by simp [Op.operands] at hy ⊢; simp [hy])), optMap_congr (o := m) (env := env) (env' := env') (fun y hy => h y (by simp [Op.operands] at hy ⊢; simp [hy]))]
  | fieldAddr t x f => simp only [evOp_fieldAddr, evPure]; rw [h x (by simp [Op.operands])]
  | field t x f => simp only [evOp_field, evPure]; rw [h x (by simp [Op.operands])]
  | indexAddr t x i => simp only [evOp_indexAddr, evPure]; rw [h x (by simp [Op.operands]), h i (by simp [Op.operands])]
  | index t x i => simp only [evOp_index, evPure]; rw [h x (by simp [Op.operands]), h i (by simp [Op.operands])]
  | extract x i => simp only [evOp_extract, evPure]; rw [h x (by simp [Op.operands])]
  | call c =>
    obtain ⟨callee, args, ts⟩ := c
    cases callee with
    | builtin b =>
      have ha := evArgs_congr (P := P) (env := env) (env' := env') ts.toList args.toList (fun x hx => h x (by simp [Op.operands, Call.operands]; simpa using hx))
      by_cases hb : b = .append
      · subst hb
        simp only [evOp_append, evStore]
        cases hl : args.toList with
        | nil => rfl
        | cons s r =>
          cases r with
          | nil => rfl
          | cons x r =>
            cases r with
            | nil =>
              have h1 := h s (by simp [Op.operands, Call.operands]; rw [← Array.mem_toList_iff, hl]; simp)
              have h2 := h x (by simp [Op.operands, Call.operands]; rw [← Array.mem_toList_iff, hl]; simp)
              cases ts.toList with
              | nil => rfl
              | cons t r =>
                cases r with
                | nil => rfl
                | cons t' r =>
                  cases r with
                  | nil => cases dst with
                    | none => rfl
                    | some d => simp only [h1, h2]
                  | cons _ _ => rfl
            | cons _ _ => rfl
      by_cases hb2 : b = .clear
      · subst hb2
        simp only [evOp_clear, evStore]
        cases hl : args.toList with
        | nil => rfl
        | cons x r =>
          cases r with
          | nil =>
            have h1 := h x (by simp [Op.operands, Call.operands]; rw [← Array.mem_toList_iff, hl]; simp)
            cases ts.toList with
            | nil => rfl
            | cons t r =>
              cases r with
              | nil => simp only [h1]
              | cons _ _ => rfl
          | cons _ _ => rfl
      by_cases hb3 : b = .len
      · subst hb3
        have hq : ∀ env, evOp P Γ call lv dst ty env st (.call ⟨.builtin .len, args, ts⟩) = pureO st (evLen P Γ st ts.toList (evArgs P env ts.toList args.toList)) := fun _ => rfl
        rw [hq, hq, ha]
      · have hq : ∀ env, evOp P Γ call lv dst ty env st (.call ⟨.builtin b, args, ts⟩) = pureO st (evPureB P b ts.toList (evArgs P env ts.toList args.toList)) := by
          intro env
          cases b <;> first | rfl | exact absurd rfl hb | exact absurd rfl hb2 | exact absurd rfl hb3
        rw [hq, hq, ha]
    | value f =>
      have ha := evArgs_congr (P := P) (env := env) (env' := env') ts.toList args.toList (fun x hx => h x (by simp [Op.operands, Call.operands]; right; simpa using hx))
      simp only [evOp_call]
      rw [ha, h f (by simp [Op.operands, Call.operands])]
    | invoke r m => rfl
  | _ => rfl

/-- Classes: 0 asks nothing of the store, 1 reads it, 2 makes something of its own, 3 all else. -/
def cls (nc : Bool) (G : List FuncId) : Op → Nat
  | .move _ | .assign _ | .pick .. | .build .. | .nilCheck _ | .binOp .. | .unOp .. | .convert .. | .makeFunc .. | .slice .. | .fieldAddr .. | .field .. | .indexAddr .. | .index .. | .extract .. => 0
  | .load .. | .lookup .. => 1
  | .alloc _ | .box .. | .buildSlice .. | .makeSlice .. | .makeMap .. => 2
  | .call c => match c.callee with
    | .builtin b => match b with
      | .append => 3
      | .clear => 3
      | .len => match c.argTypes.toList with
        | [t] => if G.contains (1000000000 + t) then 1 else 0
        | _ => 0
      | _ => 0
    | .value f => if nc then 1 else match f with
      | .func g => if G.contains g then 1 else 3
      | _ => 3
    | .invoke .. => 3
  | _ => 3
def comm (a b : Nat) : Bool := a == 0 || b == 0 || (a == 1 && b == 1) || (a == 2 && b == 2)

theorem evLen_off {st : Store} {ts : List TypeId} {xs : List V} (h : ∀ t, ts = [t] → lenOn Γ t = false) : evLen P Γ st ts xs = evPureB P .len ts xs := by
  unfold evLen
  split
  · rename_i k ver
    have e : evPureB P .len ts [.mp k ver] = none := by
      cases ts with
      | nil => rfl
      | cons t r => cases r with
        | nil => simp only [evPureB, lenV]; split <;> simp_all
        | cons _ _ => rfl
    rw [e]
    split
    · split
      · rw [h _ rfl]; simp
      · rfl
    · rfl
  · rfl
theorem evLen_live {st st' : Store} {ts : List TypeId} {xs : List V} {v : V} (hs : ∀ k, (st k).live = true → st' k = st k) (h : evLen P Γ st ts xs = some v) : evLen P Γ st' ts xs = some v := by
  unfold evLen at h ⊢
  split at h
  · split at h
    · split at h
      · rename_i hm
        split at h
        · rename_i hc
          rw [hs _ hc.2.2, if_pos hc]; exact h
        · cases h
      · cases h
    · cases h
  · exact h
theorem cls0 {nc : Bool} {op : Op} (h : cls nc (Γ.map (·.1)) op = 0) {dst : Option Tmp} {ty : TypeId} {env : List V} : ∃ f : Option V, ∀ st, evOp P Γ call lv dst ty env st op = pureO st f := by
  have hp : ∀ (x : Option V), ∀ st : Store, (match x with | some v => some (v, st) | none => none : Option (V × Store)) = pureO st x := fun x st => by cases x <;> rfl
  cases op with
  | build t ps =>
    simp only [evOp_build, evStore]
    cases (zeroV P t).bind aggParts with
    | none => exact ⟨none, fun _ => rfl⟩
    | some q =>
      obtain ⟨t', zs⟩ := q
      simp only
      by_cases ht : t' = t
      · simp only [ht, if_true]
        cases setParts P (evalT P env) t zs ps.toList with
        | none => exact ⟨none, fun _ => rfl⟩
        | some vs => exact ⟨some (mkAgg t vs), fun _ => rfl⟩
      · simp only [ht, if_false]; exact ⟨none, fun _ => rfl⟩
  | call c =>
    obtain ⟨callee, args, ts⟩ := c
    cases callee with
    | builtin b =>
      by_cases hb : b = .append
      · subst hb; simp [cls] at h
      by_cases hb2 : b = .clear
      · subst hb2; simp [cls] at h
      by_cases hb3 : b = .len
      · subst hb3
        have hoff : ∀ t, ts.toList = [t] → lenOn Γ t = false := by
          intro t ht
          unfold lenOn
          simp only [cls, ht] at h
          split at h
          · cases h
          · rename_i hc; exact (Bool.not_eq_true _).mp hc
        exact ⟨evPureB P .len ts.toList (evArgs P env ts.toList args.toList), fun st => by rw [← evLen_off (st := st) hoff]; rfl⟩
      · refine ⟨evPureB P b ts.toList (evArgs P env ts.toList args.toList), fun st => ?_⟩
        cases b <;> first | rfl | exact absurd rfl hb | exact absurd rfl hb2 | exact absurd rfl hb3
    | value f =>
      simp only [cls] at h
      split at h
      · simp at h
      · split at h
        · split at h <;> simp at h
        · simp at h
    | invoke r m => simp [cls] at h
  | move x => exact ⟨some (evalT P env ty x), fun _ => rfl⟩
  | assign x => exact ⟨some (evalT P env ty x), fun _ => rfl⟩
  | _ => first
    | exact ⟨_, fun _ => rfl⟩
    | (simp [cls] at h; done)

theorem cls1 {nc : Bool} (hnc : ((nc = true → call = noCall) ∧ lv < 1000000000000000000000000000000)) {op : Op} (h : cls nc (Γ.map (·.1)) op = 1) {dst : Option Tmp} {ty : TypeId} {env : List V} {st st' : Store} {v : V} (he : evOp P Γ call lv dst ty env st op = some (v, st')) : st' = st := by
  cases op with
  | load t x =>
    simp only [evOp_load, evStore] at he
    repeat' split at he
    all_goals first | (cases he; rfl) | cases he
  | lookup t x i ok =>
    simp only [evOp_lookup, evLookup] at he
    repeat' split at he
    all_goals first | (cases he; rfl) | cases he
  | call c =>
    obtain ⟨callee, args, ts⟩ := c
    cases callee with
    | builtin b =>
      by_cases hb3 : b = .len
      · subst hb3
        have he' : pureO st (evLen P Γ st ts.toList (evArgs P env ts.toList args.toList)) = some (v, st') := he
        cases hq : evLen P Γ st ts.toList (evArgs P env ts.toList args.toList) with
        | none => rw [hq] at he'; cases he'
        | some u => rw [hq] at he'; cases he'; rfl
      · cases b <;> first | exact absurd rfl hb3 | (simp [cls] at h; done)
    | value f =>
      by_cases hn : nc = true
      · have hc := hnc.1 hn
        subst hc
        simp only [evOp_call, evCall] at he
        repeat' split at he
        all_goals first | (cases he; rfl) | cases he | (simp [noCall] at he)
      have hn : nc = false := by simpa using hn
      subst hn
      cases f with
      | func g =>
        simp only [cls, Bool.false_eq_true, if_false] at h
        split at h
        · rename_i hg
          simp only [evOp_call, evalT, evCall] at he
          cases hl : look Γ g with
          | none =>
            exfalso
            have : ∀ (Γ : Specs), look Γ g = none → g ∉ Γ.map (·.1) := by
              intro Γ
              induction Γ with
              | nil => simp
              | cons q r ih =>
                obtain ⟨g', s⟩ := q
                intro hn
                simp only [look] at hn
                split at hn
                · cases hn
                · rename_i hne
                  simp only [List.map_cons, List.mem_cons, not_or]
                  exact ⟨hne, ih hn⟩
            exact this Γ hl (by simpa using hg)
          | some s =>
            simp only [hl] at he
            repeat' split at he
            all_goals first | (cases he; rfl) | cases he
        · cases h
      | _ => simp [cls] at h
    | invoke r m => simp [cls] at h
  | _ => simp [cls] at h

/-- What is made lies under the operation's own name. -/
theorem cls2 {nc : Bool} {G : List FuncId} {op : Op} (hlv : lv < 1000000000000000000000000000000) (h : cls nc G op = 2) {dst : Option Tmp} {ty : TypeId} {env : List V} : (∀ st, evOp P Γ call lv dst ty env st op = none) ∨
    ∃ (d : Tmp) (e : TypeId) (vs : List V) (v : Nat → V), dst = some d ∧ ∀ st, evOp P Γ call lv dst ty env st op = some (v ((st (lv, d)).ver + 1), newBlk st (lv, d) e vs) := by
  cases op with
  | alloc t =>
    simp only [evOp_alloc, evStore]
    cases dst with
    | none => exact .inl fun _ => rfl
    | some d =>
      cases zeroV P t with
      | none => exact .inl fun _ => rfl
      | some z => exact .inr ⟨d, t, [z], fun n => .p (lv, d) n 0 [], rfl, fun _ => rfl⟩
  | box t x =>
    simp only [evOp_box, evStore]
    cases dst with
    | none => exact .inl fun _ => rfl
    | some d =>
      by_cases ht : hasT P t (evalT P env t x) = true
      · simp only [ht, if_true]; exact .inr ⟨d, t, [evalT P env t x], fun n => .p (lv, d) n 0 [], rfl, fun _ => rfl⟩
      · simp only [ht]; exact .inl fun _ => rfl
  | makeMap t r =>
    simp only [evOp_makeMap, evStore]
    cases dst with
    | none => exact .inl fun _ => rfl
    | some d =>
      cases mapT P t with
      | none => exact .inl fun _ => rfl
      | some q =>
        by_cases hc : szOf P (mapE t) = 0 ∧ hintOk (r.map (evalT P env 0)) = true
        · simp only [hc, if_true, and_self]; exact .inr ⟨d, mapE t, [], fun n => .mp (lv, d) n, rfl, fun _ => rfl⟩
        · simp only [hc, if_false]; exact .inl fun _ => trivial
  | buildSlice t n ps =>
    simp only [evOp_buildSlice, evStore, fk_lo hlv]
    cases dst with
    | none => exact .inl fun _ => rfl
    | some d =>
      cases tk P t with
      | sl e =>
        simp only
        cases zeroV P e with
        | none => exact .inl fun _ => rfl
        | some z =>
          simp only
          by_cases hc : n * szOf P e ≤ 2 ^ 24
          · simp only [hc, if_true, and_self]
            cases setElems P (evalT P env) e (List.replicate n z) ps.toList with
            | none => exact .inl fun _ => rfl
            | some vs => exact .inr ⟨d, e, vs, fun q => .rs e (lv, d) q 0 n true, rfl, fun _ => rfl⟩
          · simp only [hc, if_false]; exact .inl fun _ => trivial
      | _ => exact .inl fun _ => rfl
  | makeSlice t l c =>
    simp only [evOp_makeSlice, evStore, fk_lo hlv]
    cases dst with
    | none => exact .inl fun _ => rfl
    | some d =>
      cases tk P t with
      | sl e =>
        cases evalT P env 0 l with
        | d x =>
          cases x with
          | int k n =>
            cases evalT P env 0 c with
            | d y =>
              cases y with
              | int k2 m =>
                cases k <;> cases k2 <;> first
                  | exact .inl fun _ => rfl
                  | (simp only
                     cases zeroV P e with
                     | none => exact .inl fun _ => rfl
                     | some z =>
                       simp only
                       by_cases hc : 0 ≤ n ∧ n ≤ m ∧ m.toNat * P.bytesOf e ≤ maxRow ∧ m.toNat ≤ maxRow
                       · simp only [hc, if_true, and_self]; exact .inr ⟨d, e, List.replicate n.toNat z, fun q => .rs e (lv, d) q 0 n.toNat true, rfl, fun _ => rfl⟩
                       · simp only [hc, if_false]; exact .inl fun _ => trivial)
              | _ => cases k <;> exact .inl fun _ => rfl
            | _ => cases k <;> exact .inl fun _ => rfl
          | _ => exact .inl fun _ => rfl
        | _ => exact .inl fun _ => rfl
      | _ => exact .inl fun _ => rfl
  | call c =>
    obtain ⟨callee, args, ts⟩ := c
    cases callee with
    | builtin b =>
      exfalso
      cases b <;> simp only [cls] at h <;> first | cases h | (split at h <;> first | cases h | (split at h <;> cases h))
    | value f =>
      exfalso
      simp only [cls] at h
      cases nc
      · simp only [Bool.false_eq_true, if_false] at h
        split at h
        · split at h <;> simp at h
        · simp at h
      · simp at h
    | invoke r m => simp [cls] at h
  | _ => simp [cls] at h
end
end Go.Ev
end
section
set_option linter.unusedVariables false
set_option linter.unusedSimpArgs false
set_option linter.unusedSectionVars false
namespace Go.Ev
open Go.RowKit

section
variable (P : Program) (Γ : Specs) (call : Caller) (lv : Nat) (ops : Array Oper)
def stepV (o : Oper) (env : List V) (st : Store) : Option (V × Store) :=
  match o.guard with
  | none => evOp P Γ call lv o.dst o.type env st o.op
  | some (j, want) => match dstAt ops.toList j with
    | some t => match V.get env t with
      | .d (.bool q) => if q = want then evOp P Γ call lv o.dst o.type env st o.op else some (.tup [], st)
      | .tup [] => some (.tup [], st)
      | _ => none
    | none => none
def stepO (o : Oper) (env : List V) (st : Store) : Option (List V × Store) := putR env o.dst (stepV P Γ call lv ops o env st)
end
section
variable {P : Program} {Γ : Specs} {call : Caller} {lv : Nat} {ops : Array Oper}

theorem evOps_cons (o : Oper) (r : List Oper) (env : List V) (st : Store) : evOps P Γ call lv ops.toList (o :: r) env st = thenO (stepO P Γ call lv ops o env st) (evOps P Γ call lv ops.toList r) := by
  simp only [evOps, stepO, stepV]
  cases o.guard with
  | none => rfl
  | some g =>
    obtain ⟨j, want⟩ := g
    simp only
    cases dstAt ops.toList j with
    | none => rfl
    | some t =>
      simp only
      cases V.get env t with
      | d x =>
        cases x with
        | bool q => simp only [condR_b]; split <;> rfl
        | _ => rfl
      | tup vs => cases vs <;> rfl
      | _ => rfl

theorem dstAt_eq (j : Nat) : dstAt ops.toList j = (ops[j]?).bind (·.dst) := by
  unfold dstAt
  rw [nth_eq, Array.getElem?_toList]
  cases ops[j]? <;> rfl

/-- Frames that agree where an operation looks. -/
def Agree (P : Program) (ops : Array Oper) (o : Oper) (env env' : List V) : Prop := ∀ t ∈ o.looksAt ops, V.get env t = V.get env' t
theorem Agree.same {o : Oper} {env env' : List V} (h : Agree P ops o env env') : Same P env env' o.op := by
  intro x hx t
  cases x with
  | tmp i =>
    refine h i ?_
    unfold Oper.looksAt
    exact List.mem_append.2 (.inl (List.mem_filterMap.2 ⟨_, hx, rfl⟩))
  | _ => rfl
theorem stepV_congr {o : Oper} {env env' : List V} {st : Store} (h : Agree P ops o env env') : stepV P Γ call lv ops o env st = stepV P Γ call lv ops o env' st := by
  unfold stepV
  rw [evOp_congr (Agree.same h)]
  cases hg : o.guard with
  | none => rfl
  | some g =>
    obtain ⟨j, want⟩ := g
    simp only
    rw [dstAt_eq]
    cases hd : (ops[j]?).bind (·.dst) with
    | none => rfl
    | some t =>
      have : V.get env t = V.get env' t := h t (by
        unfold Oper.looksAt
        rw [hg]
        simp [hd])
      simp only [this]
theorem agree_put {o : Oper} {env : List V} {d : Option Tmp} {v : V} (h : ∀ t, d = some t → t ∉ o.looksAt ops) : Agree P ops o (putD env d v) env := by
  intro t ht
  cases d with
  | none => rfl
  | some d =>
    have hne : d ≠ t := fun e => h d rfl (e ▸ ht)
    show V.get (V.put env d v) t = _
    rw [get_eq, get_eq, put_eq]
    simp [List.getD, List.getElem?_set_ne hne]
theorem putD_comm (env : List V) {x y : Option Tmp} (u v : V) (h : ∀ d, x = some d → y ≠ some d) : putD (putD env x u) y v = putD (putD env y v) x u := by
  cases x with
  | none => cases y <;> rfl
  | some a =>
    cases y with
    | none => rfl
    | some b =>
      have hne : a ≠ b := fun e => h a rfl (by rw [e])
      show V.put (V.put env a u) b v = V.put (V.put env b v) a u
      rw [put_eq, put_eq, put_eq, put_eq]
      exact List.set_comm _ _ hne

variable {G : List FuncId}
theorem step0 {nc : Bool} {o : Oper} (h : cls nc (Γ.map (·.1)) o.op = 0) {env : List V} : ∃ f : Option V, ∀ st, stepV P Γ call lv ops o env st = pureO st f := by
  obtain ⟨f, hf⟩ := cls0 (P := P) (Γ := Γ) (call := call) (lv := lv) h (dst := o.dst) (ty := o.type) (env := env)
  unfold stepV
  cases o.guard with
  | none => exact ⟨f, hf⟩
  | some g =>
    obtain ⟨j, want⟩ := g
    simp only
    cases dstAt ops.toList j with
    | none => exact ⟨none, fun _ => rfl⟩
    | some t =>
      simp only
      cases V.get env t with
      | d x =>
        cases x with
        | bool q =>
          simp only
          by_cases hq : q = want
          · simp only [hq, if_true]; exact ⟨f, hf⟩
          · simp only [hq, if_false]; exact ⟨some (.tup []), fun _ => rfl⟩
        | _ => exact ⟨none, fun _ => rfl⟩
      | tup vs => cases vs <;> first | exact ⟨some (.tup []), fun _ => rfl⟩ | exact ⟨none, fun _ => rfl⟩
      | _ => exact ⟨none, fun _ => rfl⟩
theorem step1 {nc : Bool} (hnc : ((nc = true → call = noCall) ∧ lv < 1000000000000000000000000000000)) {o : Oper} (h : cls nc (Γ.map (·.1)) o.op = 1) {env : List V} {st st' : Store} {v : V} (he : stepV P Γ call lv ops o env st = some (v, st')) : st' = st := by
  unfold stepV at he
  repeat' split at he
  all_goals first
    | exact cls1 hnc h he
    | (cases he; rfl)
    | cases he
theorem step2 {nc : Bool} {o : Oper} (hlv : lv < 1000000000000000000000000000000) (h : cls nc G o.op = 2) {env : List V} : (∃ f : Option V, ∀ st, stepV P Γ call lv ops o env st = pureO st f) ∨
    ∃ (d : Tmp) (e : TypeId) (vs : List V) (v : Nat → V), o.dst = some d ∧ ∀ st, stepV P Γ call lv ops o env st = some (v ((st (lv, d)).ver + 1), newBlk st (lv, d) e vs) := by
  have h2 := cls2 (P := P) (Γ := Γ) (call := call) (lv := lv) hlv h (dst := o.dst) (ty := o.type) (env := env)
  have h2' : (∃ f : Option V, ∀ st, evOp P Γ call lv o.dst o.type env st o.op = pureO st f) ∨ ∃ (d : Tmp) (e : TypeId) (vs : List V) (v : Nat → V), o.dst = some d ∧ ∀ st, evOp P Γ call lv o.dst o.type env st o.op = some (v ((st (lv, d)).ver + 1), newBlk st (lv, d) e vs) := by
    rcases h2 with h2 | h2
    · exact .inl ⟨none, h2⟩
    · exact .inr h2
  unfold stepV
  cases o.guard with
  | none => exact h2'
  | some g =>
    obtain ⟨j, want⟩ := g
    simp only
    cases dstAt ops.toList j with
    | none => exact .inl ⟨none, fun _ => rfl⟩
    | some t =>
      simp only
      cases V.get env t with
      | d x =>
        cases x with
        | bool q =>
          simp only
          by_cases hq : q = want
          · simp only [hq, if_true]; exact h2'
          · simp only [hq, if_false]; exact .inl ⟨some (.tup []), fun _ => rfl⟩
        | _ => exact .inl ⟨none, fun _ => rfl⟩
      | tup vs => cases vs <;> first | exact .inl ⟨some (.tup []), fun _ => rfl⟩ | exact .inl ⟨none, fun _ => rfl⟩
      | _ => exact .inl ⟨none, fun _ => rfl⟩
theorem newBlk_comm (st : Store) {k k' : Key} (h : k ≠ k') (e e' : TypeId) (vs vs' : List V) : newBlk (newBlk st k e vs) k' e' vs' = newBlk (newBlk st k' e' vs') k e vs := by
  funext q
  unfold newBlk
  by_cases h1 : q = k
  · subst h1
    simp only [upd_same, upd_other _ _ _ h, upd_other _ _ _ (Ne.symm h)]
  · by_cases h2 : q = k'
    · subst h2
      simp only [upd_same, upd_other _ _ _ h, upd_other _ _ _ (Ne.symm h)]
    · simp only [upd_other _ _ _ h1, upd_other _ _ _ h2]

theorem putR_inv {env : List V} {d : Option Tmp} {r : Option (V × Store)} {e1 : List V} {s1 : Store} (h : putR env d r = some (e1, s1)) : ∃ v, r = some (v, s1) ∧ e1 = putD env d v := by
  cases r with
  | none => cases h
  | some q => obtain ⟨v, s⟩ := q; cases h; exact ⟨v, rfl, rfl⟩

/-- Two operations that may change places. -/
theorem swap {nc : Bool} (hnc : ((nc = true → call = noCall) ∧ lv < 1000000000000000000000000000000)) {x y : Oper} {env e1 e2 : List V} {st s1 s2 : Store} (hap : x.apart ops y = true) (hc : comm (cls nc (Γ.map (·.1)) x.op) (cls nc (Γ.map (·.1)) y.op) = true)
    (h1 : stepO P Γ call lv ops x env st = some (e1, s1)) (h2 : stepO P Γ call lv ops y e1 s1 = some (e2, s2)) :
    ∃ e1' s1', stepO P Γ call lv ops y env st = some (e1', s1') ∧ stepO P Γ call lv ops x e1' s1' = some (e2, s2) := by
  obtain ⟨a1, a2, a3⟩ := Oper.apart_spec hap
  obtain ⟨vx, hx, rfl⟩ := putR_inv h1
  obtain ⟨vy, hy, rfl⟩ := putR_inv h2
  rw [stepV_congr (agree_put a1)] at hy
  have back : ∀ st, stepV P Γ call lv ops x (putD env y.dst vy) st = stepV P Γ call lv ops x env st := fun st => stepV_congr (agree_put a3)
  have fin : ∀ s', stepV P Γ call lv ops y env st = some (vy, s') → stepV P Γ call lv ops x env s' = some (vx, s2) → ∃ e1' s1', stepO P Γ call lv ops y env st = some (e1', s1') ∧ stepO P Γ call lv ops x e1' s1' = some (putD (putD env x.dst vx) y.dst vy, s2) := by
    intro s' g1 g2
    refine ⟨putD env y.dst vy, s', by rw [stepO, g1]; rfl, ?_⟩
    rw [stepO, back, g2, putD_comm env vx vy a2]
    rfl
  simp only [comm, Bool.or_eq_true, beq_iff_eq, Bool.and_eq_true] at hc
  rcases hc with ((hc | hc) | ⟨c1, c2⟩) | ⟨c1, c2⟩
  · obtain ⟨f, hf⟩ := step0 (P := P) (Γ := Γ) (call := call) (lv := lv) (ops := ops) hc (env := env)
    rw [hf] at hx
    obtain ⟨rfl, rfl⟩ := pureO_inv hx
    exact fin s2 hy (by rw [hf]; rfl)
  · obtain ⟨f, hf⟩ := step0 (P := P) (Γ := Γ) (call := call) (lv := lv) (ops := ops) hc (env := env)
    rw [hf] at hy
    obtain ⟨rfl, rfl⟩ := pureO_inv hy
    exact fin st (by rw [hf]; rfl) hx
  · have e1 := step1 hnc c1 hx
    subst e1
    have e2 := step1 hnc c2 hy
    subst e2
    exact fin _ hy hx
  · rcases step2 (P := P) (Γ := Γ) (call := call) (lv := lv) (ops := ops) hnc.2 c1 (env := env) with ⟨f, hf⟩ | ⟨dx, ex, vsx, wx, hdx, hfx⟩
    · rw [hf] at hx
      obtain ⟨rfl, rfl⟩ := pureO_inv hx
      exact fin s2 hy (by rw [hf]; rfl)
    · rcases step2 (P := P) (Γ := Γ) (call := call) (lv := lv) (ops := ops) hnc.2 c2 (env := env) with ⟨f, hf⟩ | ⟨dy, ey, vsy, wy, hdy, hfy⟩
      · rw [hf] at hy
        obtain ⟨rfl, rfl⟩ := pureO_inv hy
        exact fin st (by rw [hf]; rfl) hx
      · have hne : (lv, dx) ≠ (lv, dy) := by
          intro e
          have : dx = dy := by injection e
          exact a2 dx hdx (by rw [this]; exact hdy)
        rw [hfx] at hx
        cases hx
        rw [hfy] at hy
        cases hy
        have k1 : (newBlk st (lv, dx) ex vsx (lv, dy)).ver = (st (lv, dy)).ver := by rw [newBlk, upd_other _ _ _ (Ne.symm hne)]
        have k2 : (newBlk st (lv, dy) ey vsy (lv, dx)).ver = (st (lv, dx)).ver := by rw [newBlk, upd_other _ _ _ hne]
        refine fin (newBlk st (lv, dy) ey vsy) (by rw [hfy, k1]) ?_
        rw [hfx, k2, newBlk_comm st hne]

/-! ### loads and stores that lie apart -/
/-- Where a load or a store goes. -/
def accT : Op → Option Tmp
  | .load _ (.tmp a) => some a
  | .store _ (.tmp a) _ => some a
  | .lookup _ (.tmp a) _ _ => some a
  | _ => none
def addrOp : Op → Option Tmp
  | .move (.tmp x) => some x
  | .fieldAddr _ (.tmp x) _ => some x
  | .indexAddr _ (.tmp x) _ => some x
  | _ => none
/-- What an address made in the region is made of. -/
def isAl : Op → Bool
  | .alloc _ => true
  | .box _ _ => true
  | _ => false
def rootT (al : List Bool) (l : List Oper) : Nat → Tmp → Option Tmp
  | 0, _ => none
  | n + 1, a => match l.find? (fun o => o.dst == some a) with
    | none => some a
    | some o => match addrOp o.op with
      | some x => rootT al l n x
      | none => if al.getD a false && isAl o.op then some a else none
def dynPair (al : List Bool) (l : List Oper) (m : List Bool) (x y : Op) : Bool := match accT x, accT y with
  | some a, some b => match rootT al l 4 a, rootT al l 4 b with
    | some r, some q => m.getD r false && m.getD q false && r != q
    | _, _ => false
  | _, _ => false
def rootsOk (al : List Bool) (l : List Oper) (u : List Bool) : Bool := (al.zipIdx.all fun (b, i) => !b || l.any fun o => o.dst == some i) && l.all fun o => match o.dst with
  | none => true
  | some a => match rootT al l 4 a with
    | none => true
    | some r => (match addrOp o.op with | some x => rootT al l 4 x == some r | none => isAl o.op && r == a && al.getD a false) && u.getD a false
/-- The addresses of a region point where their roots do. -/
structure Good (lv : Nat) (al : List Bool) (l : List Oper) (env0 env : List V) : Prop where
  der : ∀ a r, rootT al l 4 a = some r → keyOfV (V.get env a) = none ∨ keyOfV (V.get env a) = keyOfV (V.get env0 r)
  len : env.length = env0.length
  als : ∀ d, d < env0.length → al.getD d false = true → keyOfV (V.get env0 d) = some (some (lv, d))

theorem addr_fields {t : TypeId} {f : Nat} {u v : V} (he : (match tk P t, u with
    | .agg n false, .p k ver i path => if f < n then some (.p k ver i (path ++ [(t, f)])) else none
    | .agg _ false, .d (.ptr (.agg t' ds)) => if t' = t then match nth ds f with | some y => some (.d (.ptr y)) | none => none else none
    | _, _ => (none : Option V)) = some v) : keyOfV v = keyOfV u := by
  split at he
  · split at he
    · cases he; rfl
    · cases he
  · split at he
    · split at he
      · cases he; rfl
      · cases he
    · cases he
  · cases he
theorem addr_elems {t : TypeId} {u i v : V} (he : (match tk P t, u, i with
    | .sl e, .d (.sl e' ds), .d (.int _ n) => if e = e' ∧ 0 ≤ n ∧ n < ds.length then (ds[n.toNat]?).map (fun y => V.d (.ptr y)) else none
    | .sl e, .rs er k ver off len _, .d (.int _ n) => if e = er ∧ 0 ≤ n ∧ n < len then some (.p k ver (off + n.toNat) []) else none
    | .agg m true, .p k ver j path, .d (.int _ n) => if 0 ≤ n ∧ n < m then some (.p k ver j (path ++ [(t, n.toNat)])) else none
    | _, _, _ => (none : Option V)) = some v) : keyOfV v = keyOfV u := by
  split at he
  · split at he
    · simp only [Option.map_eq_some_iff] at he
      obtain ⟨_, _, rfl⟩ := he
      rfl
    · cases he
  · split at he
    · cases he; rfl
    · cases he
  · split at he
    · cases he; rfl
    · cases he
  · cases he
theorem addr_key {o : Oper} {x : Tmp} (h : addrOp o.op = some x) {env : List V} {st st' : Store} {v : V} (he : stepV P Γ call lv ops o env st = some (v, st')) : keyOfV v = none ∨ keyOfV v = keyOfV (V.get env x) := by
  have key : ∀ {v : V} {st' : Store}, evOp P Γ call lv o.dst o.type env st o.op = some (v, st') → keyOfV v = none ∨ keyOfV v = keyOfV (V.get env x) := by
    intro v st' he
    cases hop : o.op with
    | move y =>
      rw [hop] at h he
      obtain ⟨a', rfl⟩ : ∃ a', y = .tmp a' := by cases y <;> first | exact ⟨_, rfl⟩ | simp [addrOp] at h
      simp only [addrOp, Option.some.injEq] at h
      subst h
      rw [evOp_move] at he
      cases he
      exact .inr rfl
    | fieldAddr t y f =>
      rw [hop] at h he
      obtain ⟨a', rfl⟩ : ∃ a', y = .tmp a' := by cases y <;> first | exact ⟨_, rfl⟩ | simp [addrOp] at h
      simp only [addrOp, Option.some.injEq] at h
      subst h
      rw [evOp_fieldAddr] at he
      exact .inr (addr_fields (pureO_inv he).1)
    | indexAddr t y f =>
      rw [hop] at h he
      obtain ⟨a', rfl⟩ : ∃ a', y = .tmp a' := by cases y <;> first | exact ⟨_, rfl⟩ | simp [addrOp] at h
      simp only [addrOp, Option.some.injEq] at h
      subst h
      rw [evOp_indexAddr] at he
      exact .inr (addr_elems (pureO_inv he).1)
    | _ => rw [hop] at h; simp [addrOp] at h
  unfold stepV at he
  split at he
  · exact key he
  · split at he
    · split at he
      · split at he
        · exact key he
        · cases he; exact .inl rfl
      · cases he; exact .inl rfl
      · cases he
    · cases he
theorem al_key {o : Oper} {d : Tmp} {env : List V} {st s1 : Store} {v : V} (h : isAl o.op = true) (hd : o.dst = some d) (hv : stepV P Γ call lv ops o env st = some (v, s1)) : keyOfV v = none ∨ keyOfV v = some (some (lv, d)) := by
  have key : evOp P Γ call lv o.dst o.type env st o.op = some (v, s1) → keyOfV v = none ∨ keyOfV v = some (some (lv, d)) := by
    intro he
    rw [hd] at he
    cases ho : o.op <;> rw [ho] at h he <;> simp only [isAl] at h <;> try (cases h; done)
    · simp only [evOp_alloc, evStore] at he
      split at he
      · cases he; rename_i d' z hz _; right; cases hz; rfl
      · cases he
    · simp only [evOp_box, evStore] at he
      split at he
      · cases he; right; rfl
      · cases he
  unfold stepV at hv
  split at hv
  · exact key hv
  · split at hv
    · split at hv
      · split at hv
        · exact key hv
        · cases hv; exact .inl rfl
      · cases hv; exact .inl rfl
      · cases hv
    · cases hv
theorem Good.step {al u : List Bool} {env0 : List V} (hr : rootsOk al ops.toList u = true) {o : Oper} (ho : o ∈ ops.toList) {env e1 : List V} {st s1 : Store} (hg : Good lv al ops.toList env0 env) (h : stepO P Γ call lv ops o env st = some (e1, s1)) : Good lv al ops.toList env0 e1 := by
  obtain ⟨v, hv, rfl⟩ := putR_inv h
  have hlen : (putD env o.dst v).length = env0.length := by
    rw [← hg.len]
    cases o.dst with
    | none => rfl
    | some d => show (V.put env d v).length = _; rw [put_eq, List.length_set]
  refine ⟨fun a r ha => ?_, hlen, hg.als⟩
  cases hd : o.dst with
  | none => exact hg.der a r ha
  | some d =>
    by_cases hda : d = a
    · subst hda
      unfold rootsOk at hr
      rw [Bool.and_eq_true] at hr
      have hr2 := hr.2
      rw [List.all_eq_true] at hr2
      have := hr2 o ho
      rw [hd] at this
      simp only [ha, Bool.and_eq_true] at this
      have hget : (V.get (putD env (some d) v) d = v ∧ d < env.length) ∨ V.get (putD env (some d) v) d = .und := by
        show (V.get (V.put env d v) d = v ∧ d < env.length) ∨ V.get (V.put env d v) d = .und
        rw [put_eq, get_eq]
        by_cases hl : d < env.length
        · left; simp [List.getD, hl]
        · right; rw [List.getD_eq_getElem?_getD, List.getElem?_eq_none (by rw [List.length_set]; exact Nat.le_of_not_lt hl)]; rfl
      cases hx : addrOp o.op with
      | none =>
        rw [hx] at this
        simp only [Bool.and_eq_true, beq_iff_eq] at this
        obtain ⟨⟨⟨hal, hrd⟩, had⟩, _⟩ := this
        subst hrd
        rcases hget with ⟨hget, hlt⟩ | hget
        · rw [hget, hg.als r (by rw [← hg.len]; exact hlt) had]
          exact al_key hal hd hv
        · rw [hget]; exact .inl rfl
      | some x =>
        rw [hx] at this
        simp only [beq_iff_eq] at this
        have hgx := hg.der x r this.1
        rcases hget with ⟨hget, _⟩ | hget
        · rw [hget]
          rcases addr_key hx hv with h | h
          · exact .inl h
          · rw [h]; exact hgx
        · rw [hget]; exact .inl rfl
    · have : V.get (putD env (some d) v) a = V.get env a := by
        show V.get (V.put env d v) a = _
        rw [get_eq, get_eq, put_eq]
        simp [List.getD, List.getElem?_set_ne hda]
      rw [this]; exact hg.der a r ha
/-- What an access asks of the store: one block. -/
def OneBlk (P : Program) (Γ : Specs) (call : Caller) (lv : Nat) (ops : Array Oper) (o : Oper) (env : List V) (a : Tmp) : Prop :=
  (∃ f : Option V, ∀ st, stepV P Γ call lv ops o env st = pureO st f) ∨
  ∃ k, keyOfV (V.get env a) = some (some k) ∧ ((∃ g : Blk → Option V, ∀ st, stepV P Γ call lv ops o env st = pureO st (g (st k))) ∨
    ∃ g : Blk → Option Blk, ∀ st, stepV P Γ call lv ops o env st = match g (st k) with | some b => some (.tup [], upd st k b) | none => none)
theorem acc_one {o : Oper} {a : Tmp} (h : accT o.op = some a) (env : List V) : OneBlk P Γ call lv ops o env a := by
  have key : (∃ f : Option V, ∀ st, evOp P Γ call lv o.dst o.type env st o.op = pureO st f) ∨
      ∃ k, keyOfV (V.get env a) = some (some k) ∧ ((∃ g : Blk → Option V, ∀ st, evOp P Γ call lv o.dst o.type env st o.op = pureO st (g (st k))) ∨
        ∃ g : Blk → Option Blk, ∀ st, evOp P Γ call lv o.dst o.type env st o.op = match g (st k) with | some b => some (.tup [], upd st k b) | none => none) := by
    cases hop : o.op with
    | load t y =>
      rw [hop] at h
      obtain ⟨a', rfl⟩ : ∃ a', y = .tmp a' := by cases y <;> first | exact ⟨_, rfl⟩ | simp [accT] at h
      simp only [accT, Option.some.injEq] at h
      subst h
      simp only [evOp_load, evStore]
      rw [show evalT P env 0 (.tmp a') = V.get env a' from rfl]
      cases hv : V.get env a' with
      | d x =>
        cases x with
        | ptr x =>
          left
          by_cases ht : hasT P t (.d x) = true
          · exact ⟨some (.d x), fun st => by simp [ht, pureO]⟩
          · exact ⟨none, fun st => by simp [ht, pureO]⟩
        | _ => exact .inl ⟨none, fun st => rfl⟩
      | p k ver i path =>
        refine .inr ⟨k, rfl, .inl ⟨fun b => if b.ver = ver ∧ b.live = true then match nth b.vs i with
          | some v => match getPath v path with
            | some x => if hasT P t x then some x else none
            | none => none
          | none => none
          else none, fun st => ?_⟩⟩
        simp only
        split
        · cases nth (st k).vs i with
          | none => rfl
          | some v =>
            simp only
            cases getPath v path with
            | none => rfl
            | some x => simp only; split <;> rfl
        · rfl
      | _ => exact .inl ⟨none, fun st => rfl⟩
    | lookup t y z ok =>
      rw [hop] at h
      obtain ⟨a', rfl⟩ : ∃ a', y = .tmp a' := by cases y <;> first | exact ⟨_, rfl⟩ | simp [accT] at h
      simp only [accT, Option.some.injEq] at h
      subst h
      simp only [evOp_lookup]
      rw [show evalT P env 0 (.tmp a') = V.get env a' from rfl]
      unfold evLookup
      cases mapT P t with
      | none => exact .inl ⟨none, fun st => rfl⟩
      | some q =>
        obtain ⟨kt, et⟩ := q
        simp only
        cases hv : V.get env a' with
        | mp k ver =>
          simp only
          cases evalT P env 0 z with
          | d q =>
            refine .inr ⟨k, rfl, .inl ⟨fun b => if b.ver = ver ∧ b.live = true ∧ keyOk (ek P kt) q = true then
              match mget b.vs q with
              | some r => match zeroW P et with
                | some z => some (lookV ok r z)
                | none => none
              | none => none
              else none, fun st => ?_⟩⟩
            simp only
            split
            · cases mget (st k).vs q with
              | none => rfl
              | some r =>
                simp only
                cases zeroW P et <;> rfl
            · rfl
          | _ => exact .inl ⟨none, fun st => rfl⟩
        | _ => exact .inl ⟨none, fun st => rfl⟩
    | store t y z =>
      rw [hop] at h
      obtain ⟨a', rfl⟩ : ∃ a', y = .tmp a' := by cases y <;> first | exact ⟨_, rfl⟩ | simp [accT] at h
      simp only [accT, Option.some.injEq] at h
      subst h
      simp only [evOp_store, evStore]
      rw [show evalT P env 0 (.tmp a') = V.get env a' from rfl]
      cases hv : V.get env a' with
      | p k ver i path =>
        refine .inr ⟨k, rfl, .inr ⟨fun b => if b.ver = ver ∧ b.live = true then match nth b.vs i with
          | some v => match getPath v path with
            | some old => if hasT P t old ∧ hasT P t (evalT P env t z) then match setPath v path (evalT P env t z) with
                | some v' => some ⟨b.ver, b.e, setN b.vs i v', true⟩
                | none => none
              else none
            | none => none
          | none => none
          else none, fun st => ?_⟩⟩
        simp only
        split
        · cases nth (st k).vs i with
          | none => rfl
          | some v =>
            simp only
            cases getPath v path with
            | none => rfl
            | some x =>
              simp only
              split
              · cases setPath v path (evalT P env t z) <;> rfl
              · rfl
        · rfl
      | _ => exact .inl ⟨none, fun st => rfl⟩
    | _ => rw [hop] at h; simp [accT] at h
  unfold OneBlk stepV
  cases o.guard with
  | none => exact key
  | some g =>
    obtain ⟨j, want⟩ := g
    simp only
    cases dstAt ops.toList j with
    | none => exact .inl ⟨none, fun _ => rfl⟩
    | some t =>
      simp only
      cases V.get env t with
      | d x =>
        cases x with
        | bool q =>
          simp only
          by_cases hq : q = want
          · simp only [hq, if_true]; exact key
          · simp only [hq, if_false]; exact .inl ⟨some (.tup []), fun _ => rfl⟩
        | _ => exact .inl ⟨none, fun _ => rfl⟩
      | tup vs => cases vs <;> first | exact .inl ⟨some (.tup []), fun _ => rfl⟩ | exact .inl ⟨none, fun _ => rfl⟩
      | _ => exact .inl ⟨none, fun _ => rfl⟩
theorem upd_comm (st : Store) {k k' : Key} (h : k ≠ k') (b b' : Blk) : upd (upd st k b) k' b' = upd (upd st k' b') k b := by
  funext q
  by_cases h1 : q = k
  · subst h1
    simp only [upd_same, upd_other _ _ _ h]
  · by_cases h2 : q = k'
    · subst h2
      simp only [upd_same, upd_other _ _ _ (Ne.symm h)]
    · simp only [upd_other _ _ _ h1, upd_other _ _ _ h2]
/-- Two accesses that lie apart may change places. -/
theorem swapD {x y : Oper} {a b : Tmp} {env e1 e2 : List V} {st s1 s2 : Store} (hap : x.apart ops y = true) (ha : accT x.op = some a) (hb : accT y.op = some b)
    (hk : ∀ k k', keyOfV (V.get env a) = some (some k) → keyOfV (V.get env b) = some (some k') → k ≠ k')
    (h1 : stepO P Γ call lv ops x env st = some (e1, s1)) (h2 : stepO P Γ call lv ops y e1 s1 = some (e2, s2)) :
    ∃ e1' s1', stepO P Γ call lv ops y env st = some (e1', s1') ∧ stepO P Γ call lv ops x e1' s1' = some (e2, s2) := by
  obtain ⟨a1, a2, a3⟩ := Oper.apart_spec hap
  obtain ⟨vx, hx, rfl⟩ := putR_inv h1
  obtain ⟨vy, hy, rfl⟩ := putR_inv h2
  rw [stepV_congr (agree_put a1)] at hy
  have back : ∀ st, stepV P Γ call lv ops x (putD env y.dst vy) st = stepV P Γ call lv ops x env st := fun st => stepV_congr (agree_put a3)
  have fin : ∀ s', stepV P Γ call lv ops y env st = some (vy, s') → stepV P Γ call lv ops x env s' = some (vx, s2) → ∃ e1' s1', stepO P Γ call lv ops y env st = some (e1', s1') ∧ stepO P Γ call lv ops x e1' s1' = some (putD (putD env x.dst vx) y.dst vy, s2) := by
    intro s' g1 g2
    refine ⟨putD env y.dst vy, s', by rw [stepO, g1]; rfl, ?_⟩
    rw [stepO, back, g2, putD_comm env vx vy a2]
    rfl
  rcases acc_one (P := P) (Γ := Γ) (call := call) (lv := lv) (ops := ops) ha env with ⟨f, hf⟩ | ⟨k, hka, hg⟩
  · rw [hf] at hx
    obtain ⟨rfl, rfl⟩ := pureO_inv hx
    exact fin s2 hy (by rw [hf]; rfl)
  rcases acc_one (P := P) (Γ := Γ) (call := call) (lv := lv) (ops := ops) hb env with ⟨f, hf⟩ | ⟨k', hkb, hg'⟩
  · rw [hf] at hy
    obtain ⟨rfl, rfl⟩ := pureO_inv hy
    exact fin st (by rw [hf]; rfl) hx
  have hne := hk k k' hka hkb
  rcases hg with ⟨g, hg⟩ | ⟨g, hg⟩
  · rw [hg] at hx
    obtain ⟨hx, rfl⟩ := pureO_inv hx
    rcases hg' with ⟨g', hg'⟩ | ⟨g', hg'⟩
    · rw [hg'] at hy
      obtain ⟨hy, rfl⟩ := pureO_inv hy
      exact fin _ (by rw [hg', hy]; rfl) (by rw [hg, hx]; rfl)
    · have hy0 := hy
      rw [hg'] at hy
      cases hq : g' (s1 k') with
      | none => rw [hq] at hy; cases hy
      | some bl =>
        rw [hq] at hy
        cases hy
        exact fin _ hy0 (by rw [hg, upd_other _ _ _ hne, hx]; rfl)
  · have hx0 := hx
    rw [hg] at hx
    cases hq : g (st k) with
    | none => rw [hq] at hx; cases hx
    | some bl =>
      rw [hq] at hx
      cases hx
      rcases hg' with ⟨g', hg'⟩ | ⟨g', hg'⟩
      · rw [hg', upd_other _ _ _ (Ne.symm hne)] at hy
        obtain ⟨hyy, hyz⟩ := pureO_inv hy
        exact fin st (by rw [hg', hyy]; rfl) (by rw [hyz]; exact hx0)
      · rw [hg', upd_other _ _ _ (Ne.symm hne)] at hy
        cases hq' : g' (st k') with
        | none => rw [hq'] at hy; cases hy
        | some bl' =>
          rw [hq'] at hy
          cases hy
          refine fin (upd st k' bl') (by rw [hg', hq']) ?_
          rw [hg, upd_other _ _ _ hne, hq, upd_comm st hne]
/-- The two may change places, as the masks say. -/
def MayD (al : List Bool) (env0 : List V) (l : List Oper) (m : List Bool) (x y : Op) : Prop := dynPair al l m x y = true ∧ apartAll (sel m env0) = true
theorem get_sel : ∀ {m : List Bool} {env : List V} {j : Nat}, m.getD j false = true → (∃ r, keyOfV (V.get env j) = some r) → V.get env j ∈ sel m env
  | [], _, j, h, _ => by simp at h
  | _ :: _, [], j, _, h => by obtain ⟨r, h⟩ := h; cases h
  | true :: m, v :: env, 0, _, _ => by simp [sel, V.get]
  | false :: m, v :: env, 0, h, _ => by simp at h
  | true :: m, v :: env, j + 1, h, hk => List.mem_cons_of_mem _ (get_sel (m := m) (env := env) (j := j) (by simpa using h) hk)
  | false :: m, v :: env, j + 1, h, hk => get_sel (m := m) (env := env) (j := j) (by simpa using h) hk
theorem apartL_mem {v : V} : ∀ {l : List V}, apartL v l = true → ∀ u ∈ l, apartV v u = true
  | [], _, u, hu => by cases hu
  | x :: l, h, u, hu => by
    simp only [apartL, Bool.and_eq_true] at h
    rcases List.mem_cons.1 hu with rfl | hu
    · exact h.1
    · exact apartL_mem h.2 u hu
theorem apart_sel : ∀ {m : List Bool} {env : List V} {i j : Nat}, apartAll (sel m env) = true → m.getD i false = true → m.getD j false = true → i < j → (∃ r, keyOfV (V.get env i) = some r) → (∃ r, keyOfV (V.get env j) = some r) → apartV (V.get env i) (V.get env j) = true
  | [], _, i, j, _, h, _, _, _, _ => by simp at h
  | _ :: _, [], i, j, _, _, _, _, h, _ => by obtain ⟨r, h⟩ := h; cases h
  | true :: m, v :: env, 0, j + 1, ha, _, hj, _, _, hkj => by
    simp only [sel, apartAll, Bool.and_eq_true] at ha
    exact apartL_mem ha.1 _ (get_sel (by simpa using hj) hkj)
  | false :: m, v :: env, 0, j + 1, _, h, _, _, _, _ => by simp at h
  | _ :: _, _ :: _, _ , 0, _, _, _, hlt, _, _ => by omega
  | true :: m, v :: env, i + 1, j + 1, ha, hi, hj, hlt, hki, hkj => by
    simp only [sel, apartAll, Bool.and_eq_true] at ha
    exact apart_sel (m := m) (env := env) (i := i) (j := j) ha.2 (by simpa using hi) (by simpa using hj) (by omega) hki hkj
  | false :: m, v :: env, i + 1, j + 1, ha, hi, hj, hlt, hki, hkj => apart_sel (m := m) (env := env) (i := i) (j := j) (by simpa [sel] using ha) (by simpa using hi) (by simpa using hj) (by omega) hki hkj
theorem apartV_ne {u v : V} {k k' : Key} (h : apartV u v = true) (h1 : keyOfV u = some (some k)) (h2 : keyOfV v = some (some k')) : k ≠ k' := by
  unfold apartV at h
  rw [h1, h2] at h
  simp only [Bool.not_eq_true'] at h
  intro e
  subst e
  rw [keq_iff.2 rfl] at h
  cases h
theorem MayD.keys {al : List Bool} {env0 env : List V} {m : List Bool} {x y : Op} (h : MayD al env0 ops.toList m x y) (hg : Good lv al ops.toList env0 env) :
    ∃ a b, accT x = some a ∧ accT y = some b ∧ ∀ k k', keyOfV (V.get env a) = some (some k) → keyOfV (V.get env b) = some (some k') → k ≠ k' := by
  obtain ⟨h, hap⟩ := h
  unfold dynPair at h
  split at h
  · rename_i a b ha hb
    split at h
    · rename_i r q hr hq
      simp only [Bool.and_eq_true, bne_iff_ne, ne_eq] at h
      obtain ⟨⟨hmr, hmq⟩, hne⟩ := h
      refine ⟨a, b, ha, hb, fun k k' h1 h2 => ?_⟩
      have e1 : keyOfV (V.get env0 r) = some (some k) := by
        rcases hg.der a r hr with h | h
        · rw [h] at h1; cases h1
        · rw [← h]; exact h1
      have e2 : keyOfV (V.get env0 q) = some (some k') := by
        rcases hg.der b q hq with h | h
        · rw [h] at h2; cases h2
        · rw [← h]; exact h2
      rcases Nat.lt_or_gt_of_ne hne with hlt | hlt
      · exact apartV_ne (apart_sel hap hmr hmq hlt ⟨_, e1⟩ ⟨_, e2⟩) e1 e2
      · exact (apartV_ne (apart_sel hap hmq hmr hlt ⟨_, e2⟩ ⟨_, e1⟩) e2 e1).symm
    · cases h
  · cases h
theorem free_und : ∀ {u : List Bool} {env : List V} {a : Nat}, freeAll (sel u env) = true → u.getD a false = true → keyOfV (V.get env a) = none
  | [], _, a, _, h => by simp at h
  | _ :: _, [], a, _, _ => rfl
  | true :: u, v :: env, 0, h, _ => by
    simp only [sel] at h
    cases v <;> simp [freeAll] at h <;> rfl
  | false :: u, v :: env, 0, _, h => by simp at h
  | true :: u, v :: env, a + 1, h, ha => by
    simp only [sel] at h
    exact free_und (u := u) (env := env) (a := a) (by cases v <;> simp [freeAll] at h; exact h) (by simpa using ha)
  | false :: u, v :: env, a + 1, h, ha => free_und (u := u) (env := env) (a := a) (by simpa [sel] using h) (by simpa using ha)
theorem aenvG_len {lv : Nat} : ∀ (al : List Bool) (env : List V) (i : Nat), (aenvG lv i al env).length = env.length
  | [], env, i => by cases env <;> rfl
  | b :: _, [], i => by cases b <;> rfl
  | true :: al, v :: env, i => by simp [aenvG, aenvG_len al env (i + 1)]
  | false :: al, v :: env, i => by simp [aenvG, aenvG_len al env (i + 1)]
theorem aenvG_f {lv : Nat} : ∀ (al : List Bool) (env : List V) (i d : Nat), al.getD d false = false → V.get (aenvG lv i al env) d = V.get env d
  | [], env, i, d, _ => by cases env <;> rfl
  | b :: _, [], i, d, _ => by cases b <;> rfl
  | true :: al, v :: env, i, 0, h => by simp at h
  | false :: al, v :: env, i, 0, h => rfl
  | true :: al, v :: env, i, d + 1, h => aenvG_f al env (i + 1) d (by simpa using h)
  | false :: al, v :: env, i, d + 1, h => aenvG_f al env (i + 1) d (by simpa using h)
theorem aenvG_t {lv : Nat} : ∀ (al : List Bool) (env : List V) (i d : Nat), al.getD d false = true → d < env.length → V.get (aenvG lv i al env) d = .p (lv, i + d) 0 0 []
  | [], env, i, d, h, _ => by simp at h
  | _ :: _, [], i, d, _, h => by simp at h
  | true :: al, v :: env, i, 0, h, _ => rfl
  | false :: al, v :: env, i, 0, h, _ => by simp at h
  | true :: al, v :: env, i, d + 1, h, hl => by
    have := aenvG_t (lv := lv) al env (i + 1) d (by simpa using h) (by simpa using hl)
    rw [show i + (d + 1) = i + 1 + d by omega]; exact this
  | false :: al, v :: env, i, d + 1, h, hl => by
    have := aenvG_t (lv := lv) al env (i + 1) d (by simpa using h) (by simpa using hl)
    rw [show i + (d + 1) = i + 1 + d by omega]; exact this
theorem anyL_f : ∀ {al : List Bool}, anyL al = false → ∀ d, al.getD d false = false
  | [], _, d => by simp
  | true :: r, h, d => by cases h
  | false :: r, h, 0 => rfl
  | false :: r, h, d + 1 => by have := anyL_f (al := r) h d; simpa using this
theorem aenv_f {lv : Nat} {al : List Bool} {env : List V} {d : Nat} (h : al.getD d false = false) : V.get (aenv lv al env) d = V.get env d := by
  unfold aenv
  cases anyL al
  · rfl
  · exact aenvG_f al env 0 d h
theorem aenv_t {lv : Nat} {al : List Bool} {env : List V} {d : Nat} (h : al.getD d false = true) (hl : d < env.length) : V.get (aenv lv al env) d = .p (lv, d) 0 0 [] := by
  unfold aenv
  cases hq : anyL al
  · rw [anyL_f hq d] at h; cases h
  · have := aenvG_t (lv := lv) al env 0 d h hl
    rwa [Nat.zero_add] at this
theorem aenv_len {lv : Nat} {al : List Bool} {env : List V} : (aenv lv al env).length = env.length := by
  unfold aenv
  cases anyL al
  · rfl
  · exact aenvG_len al env 0
theorem Good.start {al u : List Bool} {env : List V} (hr : rootsOk al ops.toList u = true) (hu : freeAll (sel u env) = true) : Good lv al ops.toList (aenv lv al env) env := by
  unfold rootsOk at hr
  rw [Bool.and_eq_true] at hr
  obtain ⟨hr1, hr2⟩ := hr
  refine ⟨fun a r ha => ?_, aenv_len.symm, fun d hd h => by rw [aenv_t h (by rwa [aenv_len] at hd)]; rfl⟩
  cases hf : ops.toList.find? (fun o => o.dst == some a) with
  | none =>
    right
    simp only [rootT, hf, Option.some.injEq] at ha
    subst ha
    rw [aenv_f]
    cases hq : al.getD a false with
    | false => rfl
    | true =>
      exfalso
      rw [List.all_eq_true] at hr1
      have hz : (true, a) ∈ al.zipIdx := by
        rw [List.mem_zipIdx_iff_getElem?]
        rw [List.getD_eq_getElem?_getD] at hq
        cases he : al[a]? with
        | none => rw [he] at hq; cases hq
        | some b => rw [he] at hq; simpa using hq
      have h3 := hr1 _ hz
      simp only [Bool.not_true, Bool.false_or, List.any_eq_true] at h3
      obtain ⟨o, ho, hd⟩ := h3
      have h4 := List.find?_eq_none.1 hf o ho
      exact h4 hd
  | some o =>
    left
    have hm := List.mem_of_find?_eq_some hf
    have hd := List.find?_some hf
    simp only [beq_iff_eq] at hd
    rw [List.all_eq_true] at hr2
    have := hr2 o hm
    rw [hd] at this
    simp only [ha, Bool.and_eq_true] at this
    exact free_und hu this.2

/-! ### a variable made ahead of loads and calls -/
theorem look_some : ∀ {Γ : Specs} {g : FuncId}, (Γ.map (·.1)).contains g = true → (look Γ g).isSome = true
  | [], g, h => by simp at h
  | (g', s) :: Γ, g, h => by
    simp only [look]
    by_cases he : g = g'
    · rw [if_pos he]; rfl
    · rw [if_neg he]
      refine look_some (Γ := Γ) ?_
      simp only [List.map_cons, List.contains_cons, Bool.or_eq_true, beq_iff_eq] at h
      rcases h with h | h
      · exact absurd h he
      · exact h
theorem getL {st st' : Store} (hs : ∀ k, (st k).live = true → st' k = st k) {k : Key} (h : (st k).live = true) : st' k = st k := hs k h
theorem elemsOf_live {st st' : Store} (hs : ∀ k, (st k).live = true → st' k = st k) {v : V} {r : TypeId × List V} (h : elemsOf st v = some r) : elemsOf st' v = some r := by
  cases v with
  | rs er k ver off len full =>
    simp only [elemsOf] at h ⊢
    split at h
    · rename_i hc
      rw [hs k hc.2.1, if_pos hc]; exact h
    · cases h
  | d x => cases x <;> first | exact h | cases h
  | nils e => exact h
  | nila e => exact h
  | _ => cases h
mutual
theorem view_live {st st' : Store} (hs : ∀ k, (st k).live = true → st' k = st k) : ∀ {v : V} {x : D}, V.view st v = some x → V.view st' v = some x
  | .d _, _, h => h
  | .agg t vs, x, h => by
    simp only [V.view] at h ⊢
    cases hv : V.view.views st vs with
    | none => rw [hv] at h; cases h
    | some ds => rw [hv] at h; rw [views_live hs hv]; exact h
  | .nils e, _, h => h
  | .nila e, _, h => h
  | .rs er k ver off len full, x, h => by
    simp only [V.view] at h ⊢
    cases he : elemsOf st (.rs er k ver off len full) with
    | none => rw [he] at h; cases h
    | some r => rw [he] at h; rw [elemsOf_live hs he]; exact h
  | .p .., _, h => by cases h
  | .mp .., _, h => by cases h
  | .nilm, _, h => by cases h
  | .fn .., _, h => by cases h
  | .tup _, _, h => by cases h
  | .und, _, h => by cases h
  | .jk, _, h => by cases h
theorem views_live {st st' : Store} (hs : ∀ k, (st k).live = true → st' k = st k) : ∀ {vs : List V} {ds : List D}, V.view.views st vs = some ds → V.view.views st' vs = some ds
  | [], _, h => h
  | v :: vs, ds, h => by
    simp only [V.view.views] at h ⊢
    cases h1 : V.view st v with
    | none => rw [h1] at h; cases h
    | some x =>
      cases h2 : V.view.views st vs with
      | none => rw [h1, h2] at h; cases h
      | some xs => rw [h1, h2] at h; rw [view_live hs h1, views_live hs h2]; exact h
end
theorem arg_live {st st' : Store} (hs : ∀ k, (st k).live = true → st' k = st k) {v : V} {x : D} (h : V.arg st v = some x) : V.arg st' v = some x := by
  cases v with
  | p k ver i path =>
    simp only [V.arg] at h ⊢
    split at h
    · rename_i hc
      rw [hs k hc.2, if_pos hc]
      split at h
      · rename_i v hv
        split at h
        · rename_i y hy
          cases hw : V.view st y with
          | none => rw [hw] at h; cases h
          | some z => rw [hw] at h; simp only [hv, hy, view_live hs hw]; exact h
        · cases h
      · cases h
    · cases h
  | _ => exact view_live hs h
theorem args_live {st st' : Store} (hs : ∀ k, (st k).live = true → st' k = st k) : ∀ {vs : List V} {ds : List D}, V.args st vs = some ds → V.args st' vs = some ds
  | [], _, h => h
  | v :: vs, ds, h => by
    simp only [V.args] at h ⊢
    cases h1 : V.arg st v with
    | none => rw [h1] at h; cases h
    | some x =>
      cases h2 : V.args st vs with
      | none => rw [h1, h2] at h; cases h
      | some xs => rw [h1, h2] at h; rw [arg_live hs h1, args_live hs h2]; exact h
theorem call_live {st st' s1 : Store} (hs : ∀ k, (st k).live = true → st' k = st k) {f : V} {xs : List V} {v : V} (hc : call = noCall ∨ ∃ g caps, f = .fn g caps ∧ (look Γ g).isSome = true) (h : evCall Γ call lv st f xs = some (v, s1)) : evCall Γ call lv st' f xs = some (v, st') := by
  unfold evCall at h ⊢
  split at h
  · rename_i g caps
    split at h
    · rename_i s hl
      split at h
      · rename_i hcap
        rw [if_pos hcap]
        split at h
        · rename_i ds hds
          rw [args_live hs hds]
          simp only
          split at h
          · rename_i rs hrs
            split at h
            · rename_i hp
              simp only [hrs, if_pos hp]
              cases h; rfl
            · cases h
          · cases h
        · cases h
      · cases h
    · rename_i hl
      split at h
      · rcases hc with rfl | ⟨g', caps', he, hi⟩
        · cases h
        · cases he; rw [hl] at hi; cases hi
      · cases h
  · cases h
theorem cls1_live {nc : Bool} (hnc : ((nc = true → call = noCall) ∧ lv < 1000000000000000000000000000000)) {op : Op} (h : cls nc (Γ.map (·.1)) op = 1) {dst : Option Tmp} {ty : TypeId} {env : List V} {st st' s1 : Store} {v : V} (hs : ∀ k, (st k).live = true → st' k = st k) (he : evOp P Γ call lv dst ty env st op = some (v, s1)) : evOp P Γ call lv dst ty env st' op = some (v, st') := by
  cases op with
  | load t x =>
    simp only [evOp_load, evStore] at he ⊢
    split at he
    · split at he
      · rename_i hc; rw [if_pos hc]; cases he; rfl
      · cases he
    · split at he
      · rename_i hc
        rw [hs _ hc.2, if_pos hc]
        split at he
        · rename_i hv
          try rw [hv]
          try simp only
          split at he
          · rename_i hy
            try rw [hy]
            try simp only
            split at he
            · rename_i ht; rw [if_pos ht]; cases he; rfl
            · cases he
          · cases he
        · cases he
      · cases he
    · cases he
  | lookup t x i ok =>
    simp only [evOp_lookup, evLookup] at he ⊢
    split at he
    · split at he
      · split at he
        · split at he
          · rename_i hc
            rw [hs _ hc.2.1, if_pos hc]
            split at he
            · rename_i hm
              try rw [hm]
              try simp only
              split at he
              · rename_i hz; try rw [hz]
                cases he; rfl
              · cases he
            · cases he
          · cases he
        · cases he
      · cases he
    · cases he
  | call c =>
    obtain ⟨callee, args, ts⟩ := c
    cases callee with
    | builtin b =>
      by_cases hb3 : b = .len
      · subst hb3
        have he' : pureO st (evLen P Γ st ts.toList (evArgs P env ts.toList args.toList)) = some (v, s1) := he
        cases hq : evLen P Γ st ts.toList (evArgs P env ts.toList args.toList) with
        | none => rw [hq] at he'; cases he'
        | some u =>
          rw [hq] at he'; cases he'
          have h2 := evLen_live (st' := st') hs hq
          show pureO st' (evLen P Γ st' ts.toList (evArgs P env ts.toList args.toList)) = _
          rw [h2]; rfl
      · cases b <;> first | exact absurd rfl hb3 | (simp [cls] at h; done)
    | value f =>
      simp only [evOp_call] at he ⊢
      refine call_live hs ?_ he
      by_cases hn : nc = true
      · exact .inl (hnc.1 hn)
      · have hn : nc = false := by simpa using hn
        subst hn
        cases f with
        | func g =>
          simp only [cls, Bool.false_eq_true, if_false] at h
          split at h
          · rename_i hg
            refine .inr ⟨g, [], rfl, ?_⟩
            exact look_some hg
          · simp at h
        | _ => simp [cls] at h
    | invoke r m => simp [cls] at h
  | _ => simp [cls] at h
theorem step1_live {nc : Bool} (hnc : ((nc = true → call = noCall) ∧ lv < 1000000000000000000000000000000)) {o : Oper} (h : cls nc (Γ.map (·.1)) o.op = 1) {env : List V} {st st' s1 : Store} {v : V} (hs : ∀ k, (st k).live = true → st' k = st k) (he : stepV P Γ call lv ops o env st = some (v, s1)) : stepV P Γ call lv ops o env st' = some (v, st') := by
  unfold stepV at he ⊢
  split at he
  · exact cls1_live hnc h hs he
  · split at he
    · split at he
      · split at he
        · rename_i hq; rw [if_pos hq]; exact cls1_live hnc h hs he
        · rename_i hq; rw [if_neg hq]; cases he; rfl
      · cases he; rfl
      · cases he
    · cases he
/-- A load or a call, and a row that is made where none was: they may change places. -/
theorem swapF {nc : Bool} (hnc : ((nc = true → call = noCall) ∧ lv < 1000000000000000000000000000000)) {x y : Oper} {env e1 e2 : List V} {st s1 s2 : Store} (hap : x.apart ops y = true) (c1 : cls nc (Γ.map (·.1)) x.op = 1) (c2 : cls nc (Γ.map (·.1)) y.op = 2) (hdead : ∀ d, y.dst = some d → (st (lv, d)).live = false)
    (h1 : stepO P Γ call lv ops x env st = some (e1, s1)) (h2 : stepO P Γ call lv ops y e1 s1 = some (e2, s2)) :
    ∃ e1' s1', stepO P Γ call lv ops y env st = some (e1', s1') ∧ stepO P Γ call lv ops x e1' s1' = some (e2, s2) := by
  obtain ⟨a1, a2, a3⟩ := Oper.apart_spec hap
  obtain ⟨vx, hx, rfl⟩ := putR_inv h1
  obtain ⟨vy, hy, rfl⟩ := putR_inv h2
  rw [stepV_congr (agree_put a1)] at hy
  have back : ∀ st, stepV P Γ call lv ops x (putD env y.dst vy) st = stepV P Γ call lv ops x env st := fun st => stepV_congr (agree_put a3)
  have fin : ∀ s', stepV P Γ call lv ops y env st = some (vy, s') → stepV P Γ call lv ops x env s' = some (vx, s2) → ∃ e1' s1', stepO P Γ call lv ops y env st = some (e1', s1') ∧ stepO P Γ call lv ops x e1' s1' = some (putD (putD env x.dst vx) y.dst vy, s2) := by
    intro s' g1 g2
    refine ⟨putD env y.dst vy, s', by rw [stepO, g1]; rfl, ?_⟩
    rw [stepO, back, g2, putD_comm env vx vy a2]
    rfl
  have e1 := step1 hnc c1 hx
  subst e1
  rcases step2 (P := P) (Γ := Γ) (call := call) (lv := lv) (ops := ops) hnc.2 c2 (env := env) with ⟨f, hf⟩ | ⟨d, e, vs, wy, hd, hfy⟩
  · rw [hf] at hy
    obtain ⟨rfl, rfl⟩ := pureO_inv hy
    exact fin _ (by rw [hf]; rfl) hx
  · rw [hfy] at hy
    cases hy
    refine fin _ (hfy _) (step1_live hnc c1 (fun k hk => ?_) hx)
    rw [newBlk, upd_other]
    rintro rfl
    rw [hdead d hd] at hk; cases hk
def isStore : Op → Bool
  | .store .. => true
  | _ => false
def isAppend : Op → Bool
  | .call c => match c.callee with
    | .builtin b => match b with
      | .append => true
      | _ => false
    | _ => false
  | _ => false
/-- Operations that make no row but their own. -/
def keeps (nc : Bool) (G : List FuncId) (o : Op) : Bool := decide (cls nc G o ≤ 2) || isStore o || isAppend o
theorem append_dead (hlv : lv < 1000000000000000000000000000000) {args : Array Operand} {ts : Array TypeId} {dst : Option Tmp} {ty : TypeId} {env : List V} {st s1 : Store} {v : V} {d : Tmp} (h : evOp P Γ call lv dst ty env st (.call { callee := .builtin .append, args, argTypes := ts }) = some (v, s1)) (hd : dst ≠ some d) (hk : (st (lv, d)).live = false) : (s1 (lv, d)).live = false := by
  simp only [evOp_append, evStore] at h
  split at h
  · split at h
    · split at h
      · unfold appendTo at h
        split at h
        · split at h
          · cases h
            rw [fk_lo hlv, newBlk, upd_other]
            · exact hk
            · intro e; injection e with _ e; exact hd (by rw [e])
          · cases h
        · split at h
          · split at h
            · rename_i hc
              cases h
              rw [upd_other]
              · exact hk
              · intro e; subst e; rw [hc.2.1] at hk; cases hk
            · cases h
          · cases h
      · cases h
    · cases h
  · cases h
theorem store_dead {t : TypeId} {x y : Operand} {dst : Option Tmp} {ty : TypeId} {env : List V} {st s1 : Store} {v : V} {k : Key} (h : evOp P Γ call lv dst ty env st (.store t x y) = some (v, s1)) (hk : (st k).live = false) : (s1 k).live = false := by
  simp only [evOp_store, evStore] at h
  split at h
  · rename_i k' ver i path heq
    split at h
    · rename_i hc
      split at h
      · split at h
        · split at h
          · split at h
            · cases h
              by_cases hq : k = k'
              · subst hq; rw [hc.2] at hk; cases hk
              · rw [upd_other _ _ _ hq]; exact hk
            · cases h
          · cases h
        · cases h
      · cases h
    · cases h
  · cases h
theorem keep_dead {nc : Bool} (hnc : ((nc = true → call = noCall) ∧ lv < 1000000000000000000000000000000)) {o : Oper} (hk : keeps nc (Γ.map (·.1)) o.op = true) {env e1 : List V} {st s1 : Store} (h : stepO P Γ call lv ops o env st = some (e1, s1)) {d : Tmp} (hd : o.dst ≠ some d) (hl : (st (lv, d)).live = false) : (s1 (lv, d)).live = false := by
  obtain ⟨v, hv, _⟩ := putR_inv h
  simp only [keeps, Bool.or_eq_true, decide_eq_true_eq] at hk
  rcases hk with (hk | hk) | hk
  · have hc : cls nc (Γ.map (·.1)) o.op = 0 ∨ cls nc (Γ.map (·.1)) o.op = 1 ∨ cls nc (Γ.map (·.1)) o.op = 2 := by omega
    rcases hc with hc | hc | hc
    · obtain ⟨f, hf⟩ := step0 (P := P) (Γ := Γ) (call := call) (lv := lv) (ops := ops) hc (env := env)
      rw [hf] at hv
      obtain ⟨_, rfl⟩ := pureO_inv hv
      exact hl
    · rw [step1 hnc hc hv]; exact hl
    · rcases step2 (P := P) (Γ := Γ) (call := call) (lv := lv) (ops := ops) hnc.2 hc (env := env) with ⟨f, hf⟩ | ⟨d', e, vs, w, hd', hf⟩
      · rw [hf] at hv
        obtain ⟨_, rfl⟩ := pureO_inv hv
        exact hl
      · rw [hf] at hv
        cases hv
        rw [newBlk, upd_other]
        · exact hl
        · intro e; injection e with _ e; exact hd (by rw [hd', e])
  · cases ho : o.op with
    | store t x y =>
      unfold stepV at hv
      rw [ho] at hv
      repeat' split at hv
      all_goals first
        | exact store_dead hv hl
        | (cases hv; exact hl)
        | cases hv
    | _ => rw [ho] at hk; cases hk
  · cases ho : o.op with
    | call c =>
      obtain ⟨callee, args, ts⟩ := c
      rw [ho] at hk
      cases callee with
      | builtin b =>
        cases b <;> first
          | (simp [isAppend] at hk; done)
          | (unfold stepV at hv
             rw [ho] at hv
             repeat' split at hv
             all_goals first
               | exact append_dead hnc.2 hv hd hl
               | (cases hv; exact hl)
               | cases hv)
      | _ => simp [isAppend] at hk
    | _ => rw [ho] at hk; cases hk
def freshP (nc : Bool) (G : List FuncId) (f : List Bool) (x o : Oper) : Bool := cls nc G x.op == 1 && cls nc G o.op == 2 && (match o.dst with | some d => f.getD d false | none => false)
def Dead (lv : Nat) (f : List Bool) (o : Oper) (st : Store) : Prop := ∀ d, o.dst = some d → f.getD d false = true → (st (lv, d)).live = false
theorem freshP_spec {nc : Bool} {G : List FuncId} {f : List Bool} {x o : Oper} {st : Store} (h : freshP nc G f x o = true) (hd : Dead lv f o st) : cls nc G x.op = 1 ∧ cls nc G o.op = 2 ∧ ∀ d, o.dst = some d → (st (lv, d)).live = false := by
  simp only [freshP, Bool.and_eq_true, beq_iff_eq] at h
  obtain ⟨⟨h1, h2⟩, h3⟩ := h
  refine ⟨h1, h2, fun d hd' => ?_⟩
  rw [hd'] at h3
  exact hd d hd' h3
theorem deadAll_spec {lv : Nat} {st : Store} : ∀ {f : List Bool} {i : Nat}, deadAll lv st f i = true → ∀ d, f.getD d false = true → (st (lv, i + d)).live = false
  | [], i, _, d, h => by simp at h
  | true :: r, i, h, 0, _ => by simp only [deadAll, Bool.and_eq_true, Bool.not_eq_true'] at h; exact h.1
  | false :: r, i, h, 0, h0 => by simp at h0
  | true :: r, i, h, d + 1, hd => by
    simp only [deadAll, Bool.and_eq_true] at h
    have := deadAll_spec h.2 d (by simpa using hd)
    rw [show i + (d + 1) = i + 1 + d by omega]; exact this
  | false :: r, i, h, d + 1, hd => by
    have := deadAll_spec (by simpa [deadAll] using h : deadAll lv st r (i + 1) = true) d (by simpa using hd)
    rw [show i + (d + 1) = i + 1 + d by omega]; exact this

/-- An operation brought to the front. -/
theorem front {nc : Bool} (hnc : ((nc = true → call = noCall) ∧ lv < 1000000000000000000000000000000)) {env0 : List V} {al m u f : List Bool} {o : Oper} {post : List Oper} {r : List V × Store} : ∀ (pre : List Oper) (env : List V) (st : Store), (∀ x ∈ pre, x ∈ ops.toList ∧ x.apart ops o = true ∧ ((comm (cls nc (Γ.map (·.1)) x.op) (cls nc (Γ.map (·.1)) o.op) = true ∨ MayD al env0 ops.toList m x.op o.op) ∨ freshP nc (Γ.map (·.1)) f x o = true)) →
    (m = [] ∨ (rootsOk al ops.toList u = true ∧ Good lv al ops.toList env0 env)) → (f = [] ∨ ((∀ x ∈ ops.toList, keeps nc (Γ.map (·.1)) x.op = true) ∧ Dead lv f o st)) →
    evOps P Γ call lv ops.toList (pre ++ o :: post) env st = some r → ∃ e1 s1, stepO P Γ call lv ops o env st = some (e1, s1) ∧ evOps P Γ call lv ops.toList (pre ++ post) e1 s1 = some r
  | [], env, st, _, _, _, h => by
    rw [List.nil_append, evOps_cons] at h
    cases hs : stepO P Γ call lv ops o env st with
    | none => rw [hs] at h; cases h
    | some q => obtain ⟨e1, s1⟩ := q; rw [hs] at h; exact ⟨e1, s1, rfl, h⟩
  | x :: pre, env, st, hx, hG, hF, h => by
    rw [List.cons_append, evOps_cons] at h
    cases hs : stepO P Γ call lv ops x env st with
    | none => rw [hs] at h; cases h
    | some q =>
      obtain ⟨e1, s1⟩ := q
      rw [hs, thenO_s] at h
      obtain ⟨hxm, hap, hc⟩ := hx x (by simp)
      obtain ⟨e2, s2, g1, g2⟩ := front hnc pre e1 s1 (fun y hy => hx y (by simp [hy])) (hG.imp id fun ⟨q1, q2⟩ => ⟨q1, q2.step q1 hxm hs⟩)
        (hF.imp id fun ⟨q1, q2⟩ => ⟨q1, fun d h1 h2 => keep_dead hnc (q1 x hxm) hs (fun e => (Oper.apart_spec hap).2.1 d e h1) (q2 d h1 h2)⟩) h
      have hsw : ∃ e1' s1', stepO P Γ call lv ops o env st = some (e1', s1') ∧ stepO P Γ call lv ops x e1' s1' = some (e2, s2) := by
        rcases hc with (hc | hc) | hc
        · exact swap hnc hap hc hs g1
        rotate_left
        · rcases hF with rfl | ⟨_, hF⟩
          · simp only [freshP] at hc
            cases ho : o.dst <;> simp [ho] at hc
          · obtain ⟨c1, c2, c3⟩ := freshP_spec hc hF
            exact swapF hnc hap c1 c2 c3 hs g1
        · rcases hG with rfl | ⟨_, hG⟩
          · exfalso
            have := hc.1
            unfold dynPair at this
            repeat' split at this
            all_goals simp at this
          · obtain ⟨a, b, ha, hb, hk⟩ := hc.keys hG
            exact swapD hap ha hb hk hs g1
      obtain ⟨e1', s1', f1, f2⟩ := hsw
      refine ⟨e1', s1', f1, ?_⟩
      rw [List.cons_append, evOps_cons, f2, thenO_s]
      exact g2

/-! ### which come first -/
def maskOne (acc : List Nat) (l : List Edge) : Nat := match l with
  | [] => 0
  | e :: r => if Region.binds .any e then 2 ^ e.on ||| acc.getD e.on 0 ||| maskOne acc r else maskOne acc r
def masksGo : List Oper → List Nat → List Nat
  | [], acc => acc
  | o :: r, acc => masksGo r (acc ++ [maskOne acc o.after.toList])
def drawOk (nc : Bool) (G : List FuncId) (m u f : List Bool) (ops : Array Oper) : Bool :=
  let ms := masksGo ops.toList []
  ((m.isEmpty || rootsOk (andL m u) ops.toList u) && (f.isEmpty || (ops.toList.all (fun o => keeps nc G o.op) && ops.toList.zipIdx.all fun (o, i) => ops.toList.zipIdx.all fun (x, j) => !decide (j < i) || x.dst.isNone || x.dst != o.dst))) && ops.toList.zipIdx.all fun (o, i) => (o.after.toList.all fun e => !Region.binds .any e || decide (e.on < i)) &&
    ops.toList.zipIdx.all fun (x, j) => !decide (j < i) || (ms.getD i 0).testBit j || (x.apart ops o && (comm (cls nc G x.op) (cls nc G o.op) || dynPair (andL m u) ops.toList m x.op o.op || freshP nc G f x o))

theorem testBit_two_pow' {n j : Nat} (h : (2 ^ n).testBit j = true) : j = n := by
  rw [Nat.testBit_two_pow] at h
  simpa using Eq.symm (of_decide_eq_true h)
theorem maskOne_spec {acc : List Nat} {j : Nat} : ∀ {l : List Edge}, (maskOne acc l).testBit j = true → ∃ e ∈ l, Region.binds .any e = true ∧ (j = e.on ∨ (acc.getD e.on 0).testBit j = true)
  | [], h => by simp [maskOne] at h
  | e :: r, h => by
    simp only [maskOne] at h
    split at h
    · rename_i hb
      rw [Nat.testBit_or, Nat.testBit_or, Bool.or_eq_true, Bool.or_eq_true] at h
      rcases h with (h | h) | h
      · exact ⟨e, by simp, hb, .inl (testBit_two_pow' h)⟩
      · exact ⟨e, by simp, hb, .inr h⟩
      · obtain ⟨e', h1, h2⟩ := maskOne_spec h
        exact ⟨e', by simp [h1], h2⟩
    · obtain ⟨e', h1, h2⟩ := maskOne_spec h
      exact ⟨e', by simp [h1], h2⟩
theorem masksGo_spec : ∀ (l : List Oper) (acc : List Nat), (masksGo l acc).take acc.length = acc ∧ ∀ i o, l[i]? = some o → (masksGo l acc)[acc.length + i]? = some (maskOne ((masksGo l acc).take (acc.length + i)) o.after.toList)
  | [], acc => by simp [masksGo]
  | x :: l, acc => by
    obtain ⟨h1, h2⟩ := masksGo_spec l (acc ++ [maskOne acc x.after.toList])
    simp only [masksGo]
    have h1' : (masksGo l (acc ++ [maskOne acc x.after.toList])).take acc.length = acc := by
      have := congrArg (List.take acc.length) h1
      rw [List.take_take] at this
      simpa using this
    refine ⟨h1', fun i o hi => ?_⟩
    cases i with
    | zero =>
      simp at hi; subst hi
      rw [Nat.add_zero, h1']
      have := congrArg (fun l => l[acc.length]?) h1
      simp only [List.length_append, List.length_cons, List.length_nil, Nat.zero_add] at this
      rw [List.getElem?_take_of_lt (by omega)] at this
      rw [this]; simp
    | succ i =>
      simp at hi
      have := h2 i o hi
      simp only [List.length_append, List.length_cons, List.length_nil, Nat.zero_add] at this
      rw [show acc.length + (i + 1) = acc.length + 1 + i by omega]
      exact this
end
end Go.Ev
end
