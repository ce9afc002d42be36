/- The evaluator's soundness, eleventh part: which operations may change places. -/
import Derived.Test.YtmhjmjodchbhlaaREvK
import Derived.Orders
set_option linter.unusedVariables false
set_option linter.unusedSimpArgs false
set_option linter.unusedSectionVars false
namespace Go.Ev
open Go.RowKit

section
variable {P : Program} {Γ : Specs} {call : Caller} {lv : Nat}

/-- Two frames agree on the operands. -/
def Same (P : Program) (env env' : List V) (op : Op) : Prop := ∀ x ∈ op.operands.toList, ∀ t, evalT P env t x = evalT P env' t x

theorem evArgs_congr {env env' : List V} : ∀ (ts : List TypeId) (os : List Operand), (∀ x ∈ os, ∀ t, evalT P env t x = evalT P env' t x) → evArgs P env ts os = evArgs P env' ts os
  | [], [], _ => rfl
  | _ :: _, [], _ => rfl
  | [], o :: os, h => by simp only [evArgs]; rw [h o (by simp), evArgs_congr [] os (fun x hx => h x (by simp [hx]))]
  | t :: ts, o :: os, h => by simp only [evArgs]; rw [h o (by simp), evArgs_congr ts os (fun x hx => h x (by simp [hx]))]
theorem setParts_congr {ρ ρ' : TypeId → Operand → V} {t : TypeId} : ∀ (ps : List (Nat × Operand)) (vs : List V), (∀ x ∈ ps, ∀ t, ρ t x.2 = ρ' t x.2) → setParts P ρ t vs ps = setParts P ρ' t vs ps
  | [], _, _ => rfl
  | (i, o) :: r, vs, h => by
    simp only [setParts]
    have ho := fun t => h (i, o) (by simp) t
    simp only at ho
    cases compT P t i with
    | none => rfl
    | some e => simp only [ho e]; rw [setParts_congr r _ (fun x hx => h x (by simp [hx]))]
theorem setElems_congr {ρ ρ' : TypeId → Operand → V} {e : TypeId} : ∀ (ps : List (Nat × Operand)) (vs : List V), (∀ x ∈ ps, ∀ t, ρ t x.2 = ρ' t x.2) → setElems P ρ e vs ps = setElems P ρ' e vs ps
  | [], _, _ => rfl
  | (i, o) :: r, vs, h => by
    simp only [setElems]
    have ho := fun t => h (i, o) (by simp) t
    simp only at ho
    simp only [ho e]; rw [setElems_congr r _ (fun x hx => h x (by simp [hx]))]
theorem optMap_congr {env env' : List V} {o : Option Operand} (h : ∀ x ∈ o.toList, ∀ t, evalT P env t x = evalT P env' t x) : o.map (evalT P env 0) = o.map (evalT P env' 0) := by
  cases o with
  | none => rfl
  | some x => simp [h x (by simp) 0]

theorem evOp_congr {dst : Option Tmp} {ty : TypeId} {env env' : List V} {st : Store} {op : Op} (h : Same P env env' op) : evOp P Γ call lv dst ty env st op = evOp P Γ call lv dst ty env' st op := by
  unfold Same at h
  cases op with
  | move x => simp only [evOp_move]; rw [h x (by simp [Op.operands])]
  | assign x => simp only [evOp_assign]; rw [h x (by simp [Op.operands])]
  | pick c a b =>
    simp only [evOp_pick, evPure]
    rw [h c (by simp [Op.operands]), h a (by simp [Op.operands]), h b (by simp [Op.operands])]
  | alloc t => rfl
  | box t x => simp only [evOp_box, evStore]; rw [h x (by simp [Op.operands])]
  | build t ps =>
    simp only [evOp_build, evStore]
    have : ∀ zs, setParts P (evalT P env) t zs ps.toList = setParts P (evalT P env') t zs ps.toList := fun zs => setParts_congr _ _ fun x hx t => h x.2 (by simp only [Op.operands, List.mem_map]; exact ⟨x, hx, rfl⟩) t
    simp only [this]
  | buildSlice t n ps =>
    simp only [evOp_buildSlice, evStore]
    have : ∀ e zs, setElems P (evalT P env) e zs ps.toList = setElems P (evalT P env') e zs ps.toList := fun e zs => setElems_congr _ _ fun x hx t => h x.2 (by simp only [Op.operands, List.mem_map]; exact ⟨x, hx, rfl⟩) t
    simp only [this]
  | load t x => simp only [evOp_load, evStore]; rw [h x (by simp [Op.operands])]
  | store t a x => simp only [evOp_store, evStore]; rw [h a (by simp [Op.operands]), h x (by simp [Op.operands])]
  | makeMap t r =>
    simp only [evOp_makeMap, evStore]
    rw [optMap_congr (o := r) (env := env) (env' := env') (fun y hy => h y (by simpa [Op.operands] using hy))]
  | lookup t x i ok => simp only [evOp_lookup]; rw [h x (by simp [Op.operands]), h i (by simp [Op.operands])]
  | mapUpdate t m k x => simp only [evOp_mapUpdate]; rw [h m (by simp [Op.operands]), h k (by simp [Op.operands]), funext (fun e => h x (by simp [Op.operands]) e)]
  | insert t m k x => simp only [evOp_insert]; rw [h m (by simp [Op.operands]), h k (by simp [Op.operands]), funext (fun e => h x (by simp [Op.operands]) e)]
  | nilCheck x => simp only [evOp_nilCheck, evPure]; rw [h x (by simp [Op.operands])]
  | binOp op t x y u => simp only [evOp_binOp, evBinO]; rw [h x (by simp [Op.operands]), h y (by simp [Op.operands])]
  | unOp op t x => simp only [evOp_unOp]; rw [h x (by simp [Op.operands])]
  | convert s t x => simp only [evOp_convert]; rw [h x (by simp [Op.operands])]
  | makeFunc f a c =>
    simp only [evOp_makeFunc]
    cases f with
    | func f =>
      simp only [evPure]
      have : c.toList.map (evalT P env 0) = c.toList.map (evalT P env' 0) := List.map_congr_left fun x hx => h x (by simp [Op.operands]; right; simpa using hx) 0
      rw [this]
    | _ => rfl
  | makeSlice t l c => simp only [evOp_makeSlice, evStore]; rw [h l (by simp [Op.operands]), h c (by simp [Op.operands])]
  | slice t x l q m =>
    simp only [evOp_slice, evPure]
    rw [h x (by simp [Op.operands]), optMap_congr (o := l) (env := env) (env' := env') (fun y hy => h y (by simp [Op.operands] at hy ⊢; simp [hy])),
      optMap_congr (o := q) (env := env) (env' := env') (fun y hy => h y (by simp [Op.operands] at hy ⊢; simp [hy])), optMap_congr (o := m) (env := env) (env' := env') (fun y hy => h y (by simp [Op.operands] at hy ⊢; simp [hy]))]
  | fieldAddr t x f => simp only [evOp_fieldAddr, evPure]; rw [h x (by simp [Op.operands])]
  | field t x f => simp only [evOp_field, evPure]; rw [h x (by simp [Op.operands])]
  | indexAddr t x i => simp only [evOp_indexAddr, evPure]; rw [h x (by simp [Op.operands]), h i (by simp [Op.operands])]
  | index t x i => simp only [evOp_index, evPure]; rw [h x (by simp [Op.operands]), h i (by simp [Op.operands])]
  | extract x i => simp only [evOp_extract, evPure]; rw [h x (by simp [Op.operands])]
  | call c =>
    obtain ⟨callee, args, ts⟩ := c
    cases callee with
    | builtin b =>
      have ha := evArgs_congr (P := P) (env := env) (env' := env') ts.toList args.toList (fun x hx => h x (by simp [Op.operands, Call.operands]; simpa using hx))
      by_cases hb : b = .append
      · subst hb
        simp only [evOp_append, evStore]
        cases hl : args.toList with
        | nil => rfl
        | cons s r =>
          cases r with
          | nil => rfl
          | cons x r =>
            cases r with
            | nil =>
              have h1 := h s (by simp [Op.operands, Call.operands]; rw [← Array.mem_toList_iff, hl]; simp)
              have h2 := h x (by simp [Op.operands, Call.operands]; rw [← Array.mem_toList_iff, hl]; simp)
              cases ts.toList with
              | nil => rfl
              | cons t r =>
                cases r with
                | nil => rfl
                | cons t' r =>
                  cases r with
                  | nil => cases dst with
                    | none => rfl
                    | some d => simp only [h1, h2]
                  | cons _ _ => rfl
            | cons _ _ => rfl
      · have hq : ∀ env, evOp P Γ call lv dst ty env st (.call ⟨.builtin b, args, ts⟩) = pureO st (evPureB P b ts.toList (evArgs P env ts.toList args.toList)) := by
          intro env
          cases b <;> first | rfl | exact absurd rfl hb
        rw [hq, hq, ha]
    | value f =>
      have ha := evArgs_congr (P := P) (env := env) (env' := env') ts.toList args.toList (fun x hx => h x (by simp [Op.operands, Call.operands]; right; simpa using hx))
      simp only [evOp_call]
      rw [ha, h f (by simp [Op.operands, Call.operands])]
    | invoke r m => rfl
  | _ => rfl

/-- Classes: 0 asks nothing of the store, 1 reads it, 2 makes something of its own, 3 all else. -/
def cls (nc : Bool) (G : List FuncId) : Op → Nat
  | .move _ | .assign _ | .pick .. | .build .. | .nilCheck _ | .binOp .. | .unOp .. | .convert .. | .makeFunc .. | .slice .. | .fieldAddr .. | .field .. | .indexAddr .. | .index .. | .extract .. => 0
  | .load .. | .lookup .. => 1
  | .alloc _ | .box .. | .buildSlice .. | .makeSlice .. | .makeMap .. => 2
  | .call c => match c.callee with
    | .builtin b => match b with
      | .append => 3
      | _ => 0
    | .value f => if nc then 1 else match f with
      | .func g => if G.contains g then 1 else 3
      | _ => 3
    | .invoke .. => 3
  | _ => 3
def comm (a b : Nat) : Bool := a == 0 || b == 0 || (a == 1 && b == 1) || (a == 2 && b == 2)

theorem cls0 {nc : Bool} {G : List FuncId} {op : Op} (h : cls nc G op = 0) {dst : Option Tmp} {ty : TypeId} {env : List V} : ∃ f : Option V, ∀ st, evOp P Γ call lv dst ty env st op = pureO st f := by
  have hp : ∀ (x : Option V), ∀ st : Store, (match x with | some v => some (v, st) | none => none : Option (V × Store)) = pureO st x := fun x st => by cases x <;> rfl
  cases op with
  | build t ps =>
    simp only [evOp_build, evStore]
    cases (zeroV P t).bind aggParts with
    | none => exact ⟨none, fun _ => rfl⟩
    | some q =>
      obtain ⟨t', zs⟩ := q
      simp only
      by_cases ht : t' = t
      · simp only [ht, if_true]
        cases setParts P (evalT P env) t zs ps.toList with
        | none => exact ⟨none, fun _ => rfl⟩
        | some vs => exact ⟨some (mkAgg t vs), fun _ => rfl⟩
      · simp only [ht, if_false]; exact ⟨none, fun _ => rfl⟩
  | call c =>
    obtain ⟨callee, args, ts⟩ := c
    cases callee with
    | builtin b =>
      by_cases hb : b = .append
      · subst hb; simp [cls] at h
      · refine ⟨evPureB P b ts.toList (evArgs P env ts.toList args.toList), fun st => ?_⟩
        cases b <;> first | rfl | exact absurd rfl hb
    | value f =>
      simp only [cls] at h
      split at h
      · simp at h
      · split at h
        · split at h <;> simp at h
        · simp at h
    | invoke r m => simp [cls] at h
  | move x => exact ⟨some (evalT P env ty x), fun _ => rfl⟩
  | assign x => exact ⟨some (evalT P env ty x), fun _ => rfl⟩
  | _ => first
    | exact ⟨_, fun _ => rfl⟩
    | (simp [cls] at h; done)

theorem cls1 {nc : Bool} (hnc : nc = true → call = noCall) {op : Op} (h : cls nc (Γ.map (·.1)) op = 1) {dst : Option Tmp} {ty : TypeId} {env : List V} {st st' : Store} {v : V} (he : evOp P Γ call lv dst ty env st op = some (v, st')) : st' = st := by
  cases op with
  | load t x =>
    simp only [evOp_load, evStore] at he
    repeat' split at he
    all_goals first | (cases he; rfl) | cases he
  | lookup t x i ok =>
    simp only [evOp_lookup, evLookup] at he
    repeat' split at he
    all_goals first | (cases he; rfl) | cases he
  | call c =>
    obtain ⟨callee, args, ts⟩ := c
    cases callee with
    | builtin b => cases b <;> simp [cls] at h
    | value f =>
      by_cases hn : nc = true
      · have hc := hnc hn
        subst hc
        simp only [evOp_call, evCall] at he
        repeat' split at he
        all_goals first | (cases he; rfl) | cases he | (simp [noCall] at he)
      have hn : nc = false := by simpa using hn
      subst hn
      cases f with
      | func g =>
        simp only [cls, Bool.false_eq_true, if_false] at h
        split at h
        · rename_i hg
          simp only [evOp_call, evalT, evCall] at he
          cases hl : look Γ g with
          | none =>
            exfalso
            have : ∀ (Γ : Specs), look Γ g = none → g ∉ Γ.map (·.1) := by
              intro Γ
              induction Γ with
              | nil => simp
              | cons q r ih =>
                obtain ⟨g', s⟩ := q
                intro hn
                simp only [look] at hn
                split at hn
                · cases hn
                · rename_i hne
                  simp only [List.map_cons, List.mem_cons, not_or]
                  exact ⟨hne, ih hn⟩
            exact this Γ hl (by simpa using hg)
          | some s =>
            simp only [hl] at he
            repeat' split at he
            all_goals first | (cases he; rfl) | cases he
        · cases h
      | _ => simp [cls] at h
    | invoke r m => simp [cls] at h
  | _ => simp [cls] at h

/-- What is made lies under the operation's own name. -/
theorem cls2 {nc : Bool} {G : List FuncId} {op : Op} (h : cls nc G op = 2) {dst : Option Tmp} {ty : TypeId} {env : List V} : (∀ st, evOp P Γ call lv dst ty env st op = none) ∨
    ∃ (d : Tmp) (e : TypeId) (vs : List V) (v : Nat → V), dst = some d ∧ ∀ st, evOp P Γ call lv dst ty env st op = some (v ((st (lv, d)).ver + 1), newBlk st (lv, d) e vs) := by
  cases op with
  | alloc t =>
    simp only [evOp_alloc, evStore]
    cases dst with
    | none => exact .inl fun _ => rfl
    | some d =>
      cases zeroV P t with
      | none => exact .inl fun _ => rfl
      | some z => exact .inr ⟨d, t, [z], fun n => .p (lv, d) n 0 [], rfl, fun _ => rfl⟩
  | box t x =>
    simp only [evOp_box, evStore]
    cases dst with
    | none => exact .inl fun _ => rfl
    | some d =>
      by_cases ht : hasT P t (evalT P env t x) = true
      · simp only [ht, if_true]; exact .inr ⟨d, t, [evalT P env t x], fun n => .p (lv, d) n 0 [], rfl, fun _ => rfl⟩
      · simp only [ht]; exact .inl fun _ => rfl
  | makeMap t r =>
    simp only [evOp_makeMap, evStore]
    cases dst with
    | none => exact .inl fun _ => rfl
    | some d =>
      cases mapT P t with
      | none => exact .inl fun _ => rfl
      | some q =>
        by_cases hc : szOf P (mapE t) = 0 ∧ hintOk (r.map (evalT P env 0)) = true
        · simp only [hc, if_true, and_self]; exact .inr ⟨d, mapE t, [], fun n => .mp (lv, d) n, rfl, fun _ => rfl⟩
        · simp only [hc, if_false]; exact .inl fun _ => trivial
  | buildSlice t n ps =>
    simp only [evOp_buildSlice, evStore]
    cases dst with
    | none => exact .inl fun _ => rfl
    | some d =>
      cases tk P t with
      | sl e =>
        simp only
        cases zeroV P e with
        | none => exact .inl fun _ => rfl
        | some z =>
          simp only
          by_cases hc : n * szOf P e ≤ 2 ^ 24
          · simp only [hc, if_true, and_self]
            cases setElems P (evalT P env) e (List.replicate n z) ps.toList with
            | none => exact .inl fun _ => rfl
            | some vs => exact .inr ⟨d, e, vs, fun q => .rs e (lv, d) q 0 n true, rfl, fun _ => rfl⟩
          · simp only [hc, if_false]; exact .inl fun _ => trivial
      | _ => exact .inl fun _ => rfl
  | makeSlice t l c =>
    simp only [evOp_makeSlice, evStore]
    cases dst with
    | none => exact .inl fun _ => rfl
    | some d =>
      cases tk P t with
      | sl e =>
        cases evalT P env 0 l with
        | d x =>
          cases x with
          | int k n =>
            cases evalT P env 0 c with
            | d y =>
              cases y with
              | int k2 m =>
                cases k <;> cases k2 <;> first
                  | exact .inl fun _ => rfl
                  | (simp only
                     cases zeroV P e with
                     | none => exact .inl fun _ => rfl
                     | some z =>
                       simp only
                       by_cases hc : 0 ≤ n ∧ n ≤ m ∧ m.toNat * P.bytesOf e ≤ maxRow ∧ m.toNat ≤ maxRow
                       · simp only [hc, if_true, and_self]; exact .inr ⟨d, e, List.replicate n.toNat z, fun q => .rs e (lv, d) q 0 n.toNat true, rfl, fun _ => rfl⟩
                       · simp only [hc, if_false]; exact .inl fun _ => trivial)
              | _ => cases k <;> exact .inl fun _ => rfl
            | _ => cases k <;> exact .inl fun _ => rfl
          | _ => exact .inl fun _ => rfl
        | _ => exact .inl fun _ => rfl
      | _ => exact .inl fun _ => rfl
  | call c =>
    obtain ⟨callee, args, ts⟩ := c
    cases callee with
    | builtin b => cases b <;> simp [cls] at h
    | value f =>
      exfalso
      simp only [cls] at h
      cases nc
      · simp only [Bool.false_eq_true, if_false] at h
        split at h
        · split at h <;> simp at h
        · simp at h
      · simp at h
    | invoke r m => simp [cls] at h
  | _ => simp [cls] at h
end
end Go.Ev
