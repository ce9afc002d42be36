/- The evaluator's soundness, tenth part: one operation of the code. -/
import Derived.Test.YtmhjmjodchbhlaaREvU
set_option linter.unusedVariables false
set_option linter.unusedSimpArgs false
set_option linter.unusedSectionVars false
namespace Go.Ev
open Go.RowKit

section
variable {P : Program} {B0 : Nat} {S : Nat → Prop} {σ : Sig} {st : Store} {w : World} {env : List V} {a : Act}

theorem load_sound {lv : Nat} {dst : Option Tmp} {t : TypeId} {x : Operand} {v : V} {st' : Store} (hI : Inv P B0 S σ st w) (hrel : EnvRel P S σ st w env a.tmps)
    (h : evStore P (evalT P env) lv dst st (.load t x) = some (v, st')) : Ran P B0 S σ st w ((Instr.loadAt t (a.eval x)).run P w) v st' := by
  have hx := evalT_rel hrel 0 x
  simp only [evStore] at h
  split at h
  · rename_i e y hv
    rw [hv] at hx
    split at h
    · rename_i ht
      cases h
      obtain ⟨b, o, xs, hA, hb, hat, hf⟩ := relV_dp hx
      rw [hA]
      have hr : RelC P S σ st w (.d y) xs := hf
      refine Ran.same hI ⟨_, ?_, (valOf_rel hr).to_v⟩
      simp only [Instr.loadAt, Instr.sureAddr, Sem.run_bind, Sem.run_pure, Result.andThen_ok]
      exact run_loadVar ht hr hat.cell
    · cases h
  · rename_i k ver i path hv
    rw [hv] at hx
    split at h
    · rename_i hc
      obtain ⟨rfl, hl⟩ := hc
      split at h
      · rename_i y hy
        split at h
        · rename_i z hz
          split at h
          · rename_i ht
            cases h
            obtain ⟨A, hA, _, hfr⟩ := relV_p hx
            rw [hA]
            rw [nth_eq] at hy
            obtain ⟨val, h1, h2⟩ := load_ok hI hl hy hz ht (hfr rfl hl)
            refine Ran.same hI ⟨val, ?_, h2⟩
            simp only [Instr.loadAt, Instr.sureAddr, Sem.run_bind, Sem.run_pure, Result.andThen_ok]
            exact h1
          · cases h
        · cases h
      · cases h
    · cases h
  · cases h

theorem store_sound {lv : Nat} {dst : Option Tmp} {t : TypeId} {x y : Operand} {v : V} {st' : Store} (hI : Inv P B0 S σ st w) (hrel : EnvRel P S σ st w env a.tmps)
    (h : evStore P (evalT P env) lv dst st (.store t x y) = some (v, st')) : OpOk P B0 S σ st w ((do Instr.storeAt t (a.eval x) (a.eval y); pure .skip : Sem Next).run P w) v st' := by
  have hx := evalT_rel hrel 0 x
  have hy := evalT_rel hrel t y
  simp only [evStore] at h
  split at h
  · rename_i k ver i path hv
    rw [hv] at hx
    split at h
    · rename_i hc
      obtain ⟨rfl, hl⟩ := hc
      split at h
      · rename_i z hz
        split at h
        · rename_i old hold
          split at h
          · rename_i ht
            split at h
            · rename_i v' hs
              cases h
              obtain ⟨A, hA, _, hfr⟩ := relV_p hx
              rw [hA]
              rw [nth_eq] at hz
              obtain ⟨w', h1, h2, h3, h4⟩ := store_ok hI hl hz hold ht.1 ht.2 hy hs (hfr rfl hl)
              refine ⟨undef, .skip, w', S, σ, ?_, .inr ⟨rfl, rfl⟩, h2, h3, h4, ⟨[], rfl, rfl⟩⟩
              simp only [Instr.storeAt, Instr.sureAddr, Sem.run_bind, Sem.run_pure, Result.andThen_ok, h1]
            · cases h
          · cases h
        · cases h
      · cases h
    · cases h
  · cases h

/-- Is it a call of a function? -/
def isCall : Op → Bool
  | .call { callee := .value _, .. } => true
  | _ => false

theorem pureO_inv {o : Option V} {v : V} {st st' : Store} (h : pureO st o = some (v, st')) : o = some v ∧ st' = st := by
  cases o with
  | none => cases h
  | some x => cases h; exact ⟨rfl, rfl⟩
theorem map_toList_zip {os : List Operand} : (os.toArray.map a.eval).toList = os.map a.eval := by simp

theorem op_sound {Γ : Specs} {call : Caller} {lv : Nat} {o : Oper} {v : V} {st' : Store} (hI : Inv P B0 S σ st w) (hrel : EnvRel P S σ st w env a.tmps) (hc : isCall o.op = false)
    (h : evOp P Γ call lv o.dst o.type env st o.op = some (v, st')) : OpOk P B0 S σ st w ((execOp a.eval o).run P w) v st' := by
  obtain ⟨dst, op, type, pos, after, guard⟩ := o
  have hpure : ∀ {x : Option V} {s : Sem Value}, pureO st x = some (v, st') → (x = some v → ∃ val, s.run P w = .ok val w ∧ RelV P S σ st w v val) → OpOk P B0 S σ st w ((do pure (.value (← s)) : Sem Next).run P w) v st' := by
    intro x s hp hs
    obtain ⟨rfl, rfl⟩ := pureO_inv hp
    obtain ⟨val, h1, h2⟩ := hs rfl
    exact ⟨val, _, w, S, σ, by simp [h1], .inl rfl, hI, Evo.refl .., Below.refl _ _, h2⟩
  simp only at h hc ⊢
  cases op with
  | move x =>
    rw [evOp_move] at h
    cases h
    exact OpOk.same hI rfl (evalT_rel hrel _ _)
  | assign x =>
    rw [evOp_assign] at h
    cases h
    exact OpOk.same hI rfl (evalT_rel hrel _ _)
  | pick c x y =>
    rw [evOp_pick] at h
    obtain ⟨h, rfl⟩ := pureO_inv h
    simp only [evPure] at h
    split at h
    · rename_i q hq
      cases h
      have hcv := evalT_rel hrel 0 c
      rw [hq] at hcv
      refine OpOk.same hI (val := if q then a.eval x else a.eval y) ?_ ?_
      · simp only [execOp, relV_bool hcv, asBool, Sem.run_bind, Sem.run_pure, Result.andThen_ok]
      · cases q <;> exact evalT_rel hrel _ _
    · cases h
  | alloc t => exact (alloc_ok (env := env) (lv := lv) (dst := dst) hI h).op
  | box t x => exact (box_ok (lv := lv) (dst := dst) hI hrel h).op
  | build t ps => exact (build_ok (lv := lv) (dst := dst) hI hrel h).op
  | buildSlice t n ps => exact (buildSlice_ok (lv := lv) (dst := dst) hI hrel h).op
  | load t x => exact (load_sound (lv := lv) (dst := dst) hI hrel h).op
  | store t x y => exact store_sound (lv := lv) (dst := dst) hI hrel h
  | makeMap t r => exact (makeMap_ok (lv := lv) (dst := dst) hI hrel h).op
  | lookup t x i ok => exact (lookup_ok hI hrel (evOp_lookup .. ▸ h)).op
  | mapUpdate t m k x => exact put_ok hI hrel (evOp_mapUpdate .. ▸ h)
  | insert t m k x => exact put_ok hI hrel (evOp_insert .. ▸ h)
  | nilCheck x =>
    rw [evOp_nilCheck] at h
    obtain ⟨h, rfl⟩ := pureO_inv h
    have hx := evalT_rel hrel 0 x
    simp only [evPure] at h
    split at h
    · rename_i k ver i path hv
      rw [hv] at hx
      cases h
      obtain ⟨A, hA, _⟩ := relV_p hx
      exact OpOk.same hI (val := a.eval x) (by simp only [execOp]; rw [hA]; rfl) hx
    · rename_i y hv
      rw [hv] at hx
      cases h
      obtain ⟨b, ob, xs, hA, _⟩ := relV_dp hx
      exact OpOk.same hI (val := a.eval x) (by simp only [execOp]; rw [hA]; rfl) hx
    · rename_i f caps hv
      rw [hv] at hx
      cases h
      obtain ⟨vals, hA, _⟩ := relV_one hx rfl (by simp) (by simp)
      simp at hA
      exact OpOk.same hI (val := a.eval x) (by simp only [execOp]; rw [hA]; rfl) hx
    · cases h
  | binOp op t x y u => exact hpure (evOp_binOp .. ▸ h) fun h => binO_sound h hrel
  | unOp op t x => exact hpure (evOp_unOp .. ▸ h) fun h => un_sound h (evalT_rel hrel _ _)
  | convert s t x => exact hpure (evOp_convert .. ▸ h) fun h => conv_sound h (evalT_rel hrel _ _)
  | makeFunc f first caps =>
    rw [evOp_makeFunc] at h
    obtain ⟨h1, rfl⟩ := pureO_inv h
    clear h hpure
    cases f with
    | func f =>
      simp only [evPure] at h1
      split at h1
      · rename_i hq
        cases h1
        simp only [Bool.and_eq_true, Array.isEmpty_iff] at hq
        obtain ⟨rfl, hcap⟩ := hq
        refine OpOk.same hI (val := .func (.func f) #[] (caps.map a.eval)) (by simp [execOp, Instr.makeFunc]) (RelC.to_v ⟨caps.toList.map a.eval, by rw [← Array.toList_map, Array.toArray_toList], ?_⟩ rfl)
        refine capsOk_rel hcap ?_ (by simp)
        intro x hx
        rw [List.zip_map', List.mem_map] at hx
        obtain ⟨o, _, rfl⟩ := hx
        exact evalT_rel hrel 0 o
      · cases h1
    | _ => exact absurd h1 (by simp [evPure])
  | makeSlice t l c => exact (makeSlice_ok (lv := lv) (dst := dst) hI hrel h).op
  | slice t x l q m => exact hpure (evOp_slice .. ▸ h) fun h => slice_ok hrel h
  | fieldAddr t x f => exact hpure (evOp_fieldAddr .. ▸ h) fun h => fieldAddr_sound hrel h
  | field t x f => exact hpure (evOp_field .. ▸ h) fun h => field_ok hrel h
  | indexAddr t x i => exact hpure (evOp_indexAddr .. ▸ h) fun h => indexAddr_sound hrel h
  | index t x i => exact hpure (evOp_index .. ▸ h) fun h => index_ok hrel h
  | extract x i => exact hpure (evOp_extract .. ▸ h) fun h => extract_ok hrel h
  | call c =>
    obtain ⟨callee, args, ts⟩ := c
    cases callee with
    | value f => simp [isCall] at hc
    | invoke r m => simp [evOp] at h
    | builtin b =>
      have hex : (execOp a.eval ⟨dst, .call ⟨.builtin b, args, ts⟩, type, pos, after, guard⟩) = builtin b ts type (args.map fun | .const _ => true | _ => false) (args.map a.eval) := by
        simp only [execOp, resolve, invoke]
        rfl
      rw [hex]
      have hpb : ∀ {b' : Builtin}, b' = b → pureO st (evPureB P b' ts.toList (evArgs P env ts.toList args.toList)) = some (v, st') → OpOk P B0 S σ st w ((builtin b ts type (args.map fun | .const _ => true | _ => false) (args.map a.eval)).run P w) v st' := by
        intro b' hb hp
        subst hb
        obtain ⟨hp2, rfl⟩ := pureO_inv hp
        obtain ⟨r, h1, h2⟩ := builtin_sound (vals := args.toList.map a.eval) (ty := type) (cs := args.map fun | .const _ => true | _ => false) hp2 (zip_swap (evArgs_rel hrel _ _)) (by simp [evArgs_length])
        have e1 : ts.toList.toArray = ts := by simp
        have e2 : (args.toList.map a.eval).toArray = args.map a.eval := by rw [← Array.toList_map, Array.toArray_toList]
        rw [e1, e2] at h1
        exact OpOk.same hI h1 h2
      cases b <;> first
        | exact hpb rfl h
        | (-- append
           have h' : evStore P (evalT P env) lv dst st (.call ⟨.builtin .append, args, ts⟩) = some (v, st') := h
           have hlen : ∃ s x t, args = #[s, x] ∧ ts = #[t, t] := by
             simp only [evStore] at h'
             split at h'
             · rename_i s x t t' d h1 h2
               split at h'
               · split at h'
                 · rename_i hq
                   obtain ⟨rfl, _⟩ := hq
                   exact ⟨s, x, t', by rw [← Array.toArray_toList (xs := args), h1], by rw [← Array.toArray_toList (xs := ts), h2]⟩
                 · cases h'
               · cases h'
             · cases h'
           obtain ⟨s, x, t, rfl, rfl⟩ := hlen
           obtain ⟨val, w', S', σ', h1, h2, h3, h4, h5⟩ := append_ok (ty := type) (e := 0) hI hrel h'
           refine ⟨val, .value val, w', S', σ', ?_, .inl rfl, h2, h3, h4, h5⟩
           simp [builtin, h1])
  | _ => simp [evOp] at h
end
end Go.Ev
