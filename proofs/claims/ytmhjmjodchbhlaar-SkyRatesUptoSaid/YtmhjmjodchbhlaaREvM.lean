/- The evaluator's soundness, twelfth part: a region whose order is left open. -/
import Derived.Test.YtmhjmjodchbhlaaREvL
set_option linter.unusedVariables false
set_option linter.unusedSimpArgs false
set_option linter.unusedSectionVars false
namespace Go.Ev
open Go.RowKit

section
variable (P : Program) (Γ : Specs) (call : Caller) (lv : Nat) (ops : Array Oper)
def stepV (o : Oper) (env : List V) (st : Store) : Option (V × Store) :=
  match o.guard with
  | none => evOp P Γ call lv o.dst o.type env st o.op
  | some (j, want) => match dstAt ops.toList j with
    | some t => match V.get env t with
      | .d (.bool q) => if q = want then evOp P Γ call lv o.dst o.type env st o.op else some (.tup [], st)
      | .tup [] => some (.tup [], st)
      | _ => none
    | none => none
def stepO (o : Oper) (env : List V) (st : Store) : Option (List V × Store) := putR env o.dst (stepV P Γ call lv ops o env st)
end
section
variable {P : Program} {Γ : Specs} {call : Caller} {lv : Nat} {ops : Array Oper}

theorem evOps_cons (o : Oper) (r : List Oper) (env : List V) (st : Store) : evOps P Γ call lv ops.toList (o :: r) env st = thenO (stepO P Γ call lv ops o env st) (evOps P Γ call lv ops.toList r) := by
  simp only [evOps, stepO, stepV]
  cases o.guard with
  | none => rfl
  | some g =>
    obtain ⟨j, want⟩ := g
    simp only
    cases dstAt ops.toList j with
    | none => rfl
    | some t =>
      simp only
      cases V.get env t with
      | d x =>
        cases x with
        | bool q => simp only [condR_b]; split <;> rfl
        | _ => rfl
      | tup vs => cases vs <;> rfl
      | _ => rfl

theorem dstAt_eq (j : Nat) : dstAt ops.toList j = (ops[j]?).bind (·.dst) := by
  unfold dstAt
  rw [nth_eq, Array.getElem?_toList]
  cases ops[j]? <;> rfl

/-- Frames that agree where an operation looks. -/
def Agree (P : Program) (ops : Array Oper) (o : Oper) (env env' : List V) : Prop := ∀ t ∈ o.looksAt ops, V.get env t = V.get env' t
theorem Agree.same {o : Oper} {env env' : List V} (h : Agree P ops o env env') : Same P env env' o.op := by
  intro x hx t
  cases x with
  | tmp i =>
    refine h i ?_
    unfold Oper.looksAt
    exact List.mem_append.2 (.inl (List.mem_filterMap.2 ⟨_, hx, rfl⟩))
  | _ => rfl
theorem stepV_congr {o : Oper} {env env' : List V} {st : Store} (h : Agree P ops o env env') : stepV P Γ call lv ops o env st = stepV P Γ call lv ops o env' st := by
  unfold stepV
  rw [evOp_congr (Agree.same h)]
  cases hg : o.guard with
  | none => rfl
  | some g =>
    obtain ⟨j, want⟩ := g
    simp only
    rw [dstAt_eq]
    cases hd : (ops[j]?).bind (·.dst) with
    | none => rfl
    | some t =>
      have : V.get env t = V.get env' t := h t (by
        unfold Oper.looksAt
        rw [hg]
        simp [hd])
      simp only [this]
theorem agree_put {o : Oper} {env : List V} {d : Option Tmp} {v : V} (h : ∀ t, d = some t → t ∉ o.looksAt ops) : Agree P ops o (putD env d v) env := by
  intro t ht
  cases d with
  | none => rfl
  | some d =>
    have hne : d ≠ t := fun e => h d rfl (e ▸ ht)
    show V.get (V.put env d v) t = _
    rw [get_eq, get_eq, put_eq]
    simp [List.getD, List.getElem?_set_ne hne]
theorem putD_comm (env : List V) {x y : Option Tmp} (u v : V) (h : ∀ d, x = some d → y ≠ some d) : putD (putD env x u) y v = putD (putD env y v) x u := by
  cases x with
  | none => cases y <;> rfl
  | some a =>
    cases y with
    | none => rfl
    | some b =>
      have hne : a ≠ b := fun e => h a rfl (by rw [e])
      show V.put (V.put env a u) b v = V.put (V.put env b v) a u
      rw [put_eq, put_eq, put_eq, put_eq]
      exact List.set_comm _ _ hne

variable {G : List FuncId}
theorem step0 {nc : Bool} {o : Oper} (h : cls nc G o.op = 0) {env : List V} : ∃ f : Option V, ∀ st, stepV P Γ call lv ops o env st = pureO st f := by
  obtain ⟨f, hf⟩ := cls0 (P := P) (Γ := Γ) (call := call) (lv := lv) h (dst := o.dst) (ty := o.type) (env := env)
  unfold stepV
  cases o.guard with
  | none => exact ⟨f, hf⟩
  | some g =>
    obtain ⟨j, want⟩ := g
    simp only
    cases dstAt ops.toList j with
    | none => exact ⟨none, fun _ => rfl⟩
    | some t =>
      simp only
      cases V.get env t with
      | d x =>
        cases x with
        | bool q =>
          simp only
          by_cases hq : q = want
          · simp only [hq, if_true]; exact ⟨f, hf⟩
          · simp only [hq, if_false]; exact ⟨some (.tup []), fun _ => rfl⟩
        | _ => exact ⟨none, fun _ => rfl⟩
      | tup vs => cases vs <;> first | exact ⟨some (.tup []), fun _ => rfl⟩ | exact ⟨none, fun _ => rfl⟩
      | _ => exact ⟨none, fun _ => rfl⟩
theorem step1 {nc : Bool} (hnc : nc = true → call = noCall) {o : Oper} (h : cls nc (Γ.map (·.1)) o.op = 1) {env : List V} {st st' : Store} {v : V} (he : stepV P Γ call lv ops o env st = some (v, st')) : st' = st := by
  unfold stepV at he
  repeat' split at he
  all_goals first
    | exact cls1 hnc h he
    | (cases he; rfl)
    | cases he
theorem step2 {nc : Bool} {o : Oper} (h : cls nc G o.op = 2) {env : List V} : (∃ f : Option V, ∀ st, stepV P Γ call lv ops o env st = pureO st f) ∨
    ∃ (d : Tmp) (e : TypeId) (vs : List V) (v : Nat → V), o.dst = some d ∧ ∀ st, stepV P Γ call lv ops o env st = some (v ((st (lv, d)).ver + 1), newBlk st (lv, d) e vs) := by
  have h2 := cls2 (P := P) (Γ := Γ) (call := call) (lv := lv) h (dst := o.dst) (ty := o.type) (env := env)
  have h2' : (∃ f : Option V, ∀ st, evOp P Γ call lv o.dst o.type env st o.op = pureO st f) ∨ ∃ (d : Tmp) (e : TypeId) (vs : List V) (v : Nat → V), o.dst = some d ∧ ∀ st, evOp P Γ call lv o.dst o.type env st o.op = some (v ((st (lv, d)).ver + 1), newBlk st (lv, d) e vs) := by
    rcases h2 with h2 | h2
    · exact .inl ⟨none, h2⟩
    · exact .inr h2
  unfold stepV
  cases o.guard with
  | none => exact h2'
  | some g =>
    obtain ⟨j, want⟩ := g
    simp only
    cases dstAt ops.toList j with
    | none => exact .inl ⟨none, fun _ => rfl⟩
    | some t =>
      simp only
      cases V.get env t with
      | d x =>
        cases x with
        | bool q =>
          simp only
          by_cases hq : q = want
          · simp only [hq, if_true]; exact h2'
          · simp only [hq, if_false]; exact .inl ⟨some (.tup []), fun _ => rfl⟩
        | _ => exact .inl ⟨none, fun _ => rfl⟩
      | tup vs => cases vs <;> first | exact .inl ⟨some (.tup []), fun _ => rfl⟩ | exact .inl ⟨none, fun _ => rfl⟩
      | _ => exact .inl ⟨none, fun _ => rfl⟩
theorem newBlk_comm (st : Store) {k k' : Key} (h : k ≠ k') (e e' : TypeId) (vs vs' : List V) : newBlk (newBlk st k e vs) k' e' vs' = newBlk (newBlk st k' e' vs') k e vs := by
  funext q
  unfold newBlk
  by_cases h1 : q = k
  · subst h1
    simp only [upd_same, upd_other _ _ _ h, upd_other _ _ _ (Ne.symm h)]
  · by_cases h2 : q = k'
    · subst h2
      simp only [upd_same, upd_other _ _ _ h, upd_other _ _ _ (Ne.symm h)]
    · simp only [upd_other _ _ _ h1, upd_other _ _ _ h2]

theorem putR_inv {env : List V} {d : Option Tmp} {r : Option (V × Store)} {e1 : List V} {s1 : Store} (h : putR env d r = some (e1, s1)) : ∃ v, r = some (v, s1) ∧ e1 = putD env d v := by
  cases r with
  | none => cases h
  | some q => obtain ⟨v, s⟩ := q; cases h; exact ⟨v, rfl, rfl⟩

/-- Two operations that may change places. -/
theorem swap {nc : Bool} (hnc : nc = true → call = noCall) {x y : Oper} {env e1 e2 : List V} {st s1 s2 : Store} (hap : x.apart ops y = true) (hc : comm (cls nc (Γ.map (·.1)) x.op) (cls nc (Γ.map (·.1)) y.op) = true)
    (h1 : stepO P Γ call lv ops x env st = some (e1, s1)) (h2 : stepO P Γ call lv ops y e1 s1 = some (e2, s2)) :
    ∃ e1' s1', stepO P Γ call lv ops y env st = some (e1', s1') ∧ stepO P Γ call lv ops x e1' s1' = some (e2, s2) := by
  obtain ⟨a1, a2, a3⟩ := Oper.apart_spec hap
  obtain ⟨vx, hx, rfl⟩ := putR_inv h1
  obtain ⟨vy, hy, rfl⟩ := putR_inv h2
  rw [stepV_congr (agree_put a1)] at hy
  have back : ∀ st, stepV P Γ call lv ops x (putD env y.dst vy) st = stepV P Γ call lv ops x env st := fun st => stepV_congr (agree_put a3)
  have fin : ∀ s', stepV P Γ call lv ops y env st = some (vy, s') → stepV P Γ call lv ops x env s' = some (vx, s2) → ∃ e1' s1', stepO P Γ call lv ops y env st = some (e1', s1') ∧ stepO P Γ call lv ops x e1' s1' = some (putD (putD env x.dst vx) y.dst vy, s2) := by
    intro s' g1 g2
    refine ⟨putD env y.dst vy, s', by rw [stepO, g1]; rfl, ?_⟩
    rw [stepO, back, g2, putD_comm env vx vy a2]
    rfl
  simp only [comm, Bool.or_eq_true, beq_iff_eq, Bool.and_eq_true] at hc
  rcases hc with ((hc | hc) | ⟨c1, c2⟩) | ⟨c1, c2⟩
  · obtain ⟨f, hf⟩ := step0 (P := P) (Γ := Γ) (call := call) (lv := lv) (ops := ops) hc (env := env)
    rw [hf] at hx
    obtain ⟨rfl, rfl⟩ := pureO_inv hx
    exact fin s2 hy (by rw [hf]; rfl)
  · obtain ⟨f, hf⟩ := step0 (P := P) (Γ := Γ) (call := call) (lv := lv) (ops := ops) hc (env := env)
    rw [hf] at hy
    obtain ⟨rfl, rfl⟩ := pureO_inv hy
    exact fin st (by rw [hf]; rfl) hx
  · have e1 := step1 hnc c1 hx
    subst e1
    have e2 := step1 hnc c2 hy
    subst e2
    exact fin _ hy hx
  · rcases step2 (P := P) (Γ := Γ) (call := call) (lv := lv) (ops := ops) c1 (env := env) with ⟨f, hf⟩ | ⟨dx, ex, vsx, wx, hdx, hfx⟩
    · rw [hf] at hx
      obtain ⟨rfl, rfl⟩ := pureO_inv hx
      exact fin s2 hy (by rw [hf]; rfl)
    · rcases step2 (P := P) (Γ := Γ) (call := call) (lv := lv) (ops := ops) c2 (env := env) with ⟨f, hf⟩ | ⟨dy, ey, vsy, wy, hdy, hfy⟩
      · rw [hf] at hy
        obtain ⟨rfl, rfl⟩ := pureO_inv hy
        exact fin st (by rw [hf]; rfl) hx
      · have hne : (lv, dx) ≠ (lv, dy) := by
          intro e
          have : dx = dy := by injection e
          exact a2 dx hdx (by rw [this]; exact hdy)
        rw [hfx] at hx
        cases hx
        rw [hfy] at hy
        cases hy
        have k1 : (newBlk st (lv, dx) ex vsx (lv, dy)).ver = (st (lv, dy)).ver := by rw [newBlk, upd_other _ _ _ (Ne.symm hne)]
        have k2 : (newBlk st (lv, dy) ey vsy (lv, dx)).ver = (st (lv, dx)).ver := by rw [newBlk, upd_other _ _ _ hne]
        refine fin (newBlk st (lv, dy) ey vsy) (by rw [hfy, k1]) ?_
        rw [hfx, k2, newBlk_comm st hne]

/-! ### loads and stores that lie apart -/
/-- Where a load or a store goes. -/
def accT : Op → Option Tmp
  | .load _ (.tmp a) => some a
  | .store _ (.tmp a) _ => some a
  | .lookup _ (.tmp a) _ _ => some a
  | _ => none
def addrOp : Op → Option Tmp
  | .move (.tmp x) => some x
  | .fieldAddr _ (.tmp x) _ => some x
  | .indexAddr _ (.tmp x) _ => some x
  | _ => none
/-- What an address made in the region is made of. -/
def rootT (l : List Oper) : Nat → Tmp → Option Tmp
  | 0, _ => none
  | n + 1, a => match l.find? (fun o => o.dst == some a) with
    | none => some a
    | some o => match addrOp o.op with
      | some x => rootT l n x
      | none => none
def dynPair (l : List Oper) (m : List Bool) (x y : Op) : Bool := match accT x, accT y with
  | some a, some b => match rootT l 4 a, rootT l 4 b with
    | some r, some q => m.getD r false && m.getD q false && r != q
    | _, _ => false
  | _, _ => false
def rootsOk (l : List Oper) (u : List Bool) : Bool := l.all fun o => match o.dst with
  | none => true
  | some a => match rootT l 4 a with
    | none => true
    | some r => (match addrOp o.op with | some x => rootT l 4 x == some r | none => false) && u.getD a false
/-- The addresses of a region point where their roots do. -/
structure Good (l : List Oper) (env0 env : List V) : Prop where
  der : ∀ a r, rootT l 4 a = some r → keyOfV (V.get env a) = none ∨ keyOfV (V.get env a) = keyOfV (V.get env0 r)

theorem addr_fields {t : TypeId} {f : Nat} {u v : V} (he : (match tk P t, u with
    | .agg n false, .p k ver i path => if f < n then some (.p k ver i (path ++ [(t, f)])) else none
    | .agg _ false, .d (.ptr (.agg t' ds)) => if t' = t then match nth ds f with | some y => some (.d (.ptr y)) | none => none else none
    | _, _ => (none : Option V)) = some v) : keyOfV v = keyOfV u := by
  split at he
  · split at he
    · cases he; rfl
    · cases he
  · split at he
    · split at he
      · cases he; rfl
      · cases he
    · cases he
  · cases he
theorem addr_elems {t : TypeId} {u i v : V} (he : (match tk P t, u, i with
    | .sl e, .d (.sl e' ds), .d (.int _ n) => if e = e' ∧ 0 ≤ n ∧ n < ds.length then (ds[n.toNat]?).map (fun y => V.d (.ptr y)) else none
    | .sl e, .rs er k ver off len _, .d (.int _ n) => if e = er ∧ 0 ≤ n ∧ n < len then some (.p k ver (off + n.toNat) []) else none
    | .agg m true, .p k ver j path, .d (.int _ n) => if 0 ≤ n ∧ n < m then some (.p k ver j (path ++ [(t, n.toNat)])) else none
    | _, _, _ => (none : Option V)) = some v) : keyOfV v = keyOfV u := by
  split at he
  · split at he
    · simp only [Option.map_eq_some_iff] at he
      obtain ⟨_, _, rfl⟩ := he
      rfl
    · cases he
  · split at he
    · cases he; rfl
    · cases he
  · split at he
    · cases he; rfl
    · cases he
  · cases he
theorem addr_key {o : Oper} {x : Tmp} (h : addrOp o.op = some x) {env : List V} {st st' : Store} {v : V} (he : stepV P Γ call lv ops o env st = some (v, st')) : keyOfV v = none ∨ keyOfV v = keyOfV (V.get env x) := by
  have key : ∀ {v : V} {st' : Store}, evOp P Γ call lv o.dst o.type env st o.op = some (v, st') → keyOfV v = none ∨ keyOfV v = keyOfV (V.get env x) := by
    intro v st' he
    cases hop : o.op with
    | move y =>
      rw [hop] at h he
      obtain ⟨a', rfl⟩ : ∃ a', y = .tmp a' := by cases y <;> first | exact ⟨_, rfl⟩ | simp [addrOp] at h
      simp only [addrOp, Option.some.injEq] at h
      subst h
      rw [evOp_move] at he
      cases he
      exact .inr rfl
    | fieldAddr t y f =>
      rw [hop] at h he
      obtain ⟨a', rfl⟩ : ∃ a', y = .tmp a' := by cases y <;> first | exact ⟨_, rfl⟩ | simp [addrOp] at h
      simp only [addrOp, Option.some.injEq] at h
      subst h
      rw [evOp_fieldAddr] at he
      exact .inr (addr_fields (pureO_inv he).1)
    | indexAddr t y f =>
      rw [hop] at h he
      obtain ⟨a', rfl⟩ : ∃ a', y = .tmp a' := by cases y <;> first | exact ⟨_, rfl⟩ | simp [addrOp] at h
      simp only [addrOp, Option.some.injEq] at h
      subst h
      rw [evOp_indexAddr] at he
      exact .inr (addr_elems (pureO_inv he).1)
    | _ => rw [hop] at h; simp [addrOp] at h
  unfold stepV at he
  split at he
  · exact key he
  · split at he
    · split at he
      · split at he
        · exact key he
        · cases he; exact .inl rfl
      · cases he; exact .inl rfl
      · cases he
    · cases he
theorem Good.step {u : List Bool} {env0 : List V} (hr : rootsOk ops.toList u = true) {o : Oper} (ho : o ∈ ops.toList) {env e1 : List V} {st s1 : Store} (hg : Good ops.toList env0 env) (h : stepO P Γ call lv ops o env st = some (e1, s1)) : Good ops.toList env0 e1 := by
  obtain ⟨v, hv, rfl⟩ := putR_inv h
  refine ⟨fun a r ha => ?_⟩
  cases hd : o.dst with
  | none => exact hg.der a r ha
  | some d =>
    by_cases hda : d = a
    · subst hda
      unfold rootsOk at hr
      rw [List.all_eq_true] at hr
      have := hr o ho
      rw [hd] at this
      simp only [ha, Bool.and_eq_true] at this
      cases hx : addrOp o.op with
      | none => rw [hx] at this; simp at this
      | some x =>
        rw [hx] at this
        simp only [beq_iff_eq] at this
        have hgx := hg.der x r this.1
        have hget : V.get (putD env (some d) v) d = v ∨ V.get (putD env (some d) v) d = .und := by
          show V.get (V.put env d v) d = v ∨ V.get (V.put env d v) d = .und
          rw [put_eq, get_eq]
          by_cases hl : d < env.length
          · left; simp [List.getD, hl]
          · right; rw [List.getD_eq_getElem?_getD, List.getElem?_eq_none (by rw [List.length_set]; exact Nat.le_of_not_lt hl)]; rfl
        rcases hget with hget | hget
        · rw [hget]
          rcases addr_key hx hv with h | h
          · exact .inl h
          · rw [h]; exact hgx
        · rw [hget]; exact .inl rfl
    · have : V.get (putD env (some d) v) a = V.get env a := by
        show V.get (V.put env d v) a = _
        rw [get_eq, get_eq, put_eq]
        simp [List.getD, List.getElem?_set_ne hda]
      rw [this]; exact hg.der a r ha
/-- What an access asks of the store: one block. -/
def OneBlk (P : Program) (Γ : Specs) (call : Caller) (lv : Nat) (ops : Array Oper) (o : Oper) (env : List V) (a : Tmp) : Prop :=
  (∃ f : Option V, ∀ st, stepV P Γ call lv ops o env st = pureO st f) ∨
  ∃ k, keyOfV (V.get env a) = some (some k) ∧ ((∃ g : Blk → Option V, ∀ st, stepV P Γ call lv ops o env st = pureO st (g (st k))) ∨
    ∃ g : Blk → Option Blk, ∀ st, stepV P Γ call lv ops o env st = match g (st k) with | some b => some (.tup [], upd st k b) | none => none)
theorem acc_one {o : Oper} {a : Tmp} (h : accT o.op = some a) (env : List V) : OneBlk P Γ call lv ops o env a := by
  have key : (∃ f : Option V, ∀ st, evOp P Γ call lv o.dst o.type env st o.op = pureO st f) ∨
      ∃ k, keyOfV (V.get env a) = some (some k) ∧ ((∃ g : Blk → Option V, ∀ st, evOp P Γ call lv o.dst o.type env st o.op = pureO st (g (st k))) ∨
        ∃ g : Blk → Option Blk, ∀ st, evOp P Γ call lv o.dst o.type env st o.op = match g (st k) with | some b => some (.tup [], upd st k b) | none => none) := by
    cases hop : o.op with
    | load t y =>
      rw [hop] at h
      obtain ⟨a', rfl⟩ : ∃ a', y = .tmp a' := by cases y <;> first | exact ⟨_, rfl⟩ | simp [accT] at h
      simp only [accT, Option.some.injEq] at h
      subst h
      simp only [evOp_load, evStore]
      rw [show evalT P env 0 (.tmp a') = V.get env a' from rfl]
      cases hv : V.get env a' with
      | d x =>
        cases x with
        | ptr x =>
          left
          by_cases ht : hasT P t (.d x) = true
          · exact ⟨some (.d x), fun st => by simp [ht, pureO]⟩
          · exact ⟨none, fun st => by simp [ht, pureO]⟩
        | _ => exact .inl ⟨none, fun st => rfl⟩
      | p k ver i path =>
        refine .inr ⟨k, rfl, .inl ⟨fun b => if b.ver = ver ∧ b.live = true then match nth b.vs i with
          | some v => match getPath v path with
            | some x => if hasT P t x then some x else none
            | none => none
          | none => none
          else none, fun st => ?_⟩⟩
        simp only
        split
        · cases nth (st k).vs i with
          | none => rfl
          | some v =>
            simp only
            cases getPath v path with
            | none => rfl
            | some x => simp only; split <;> rfl
        · rfl
      | _ => exact .inl ⟨none, fun st => rfl⟩
    | lookup t y z ok =>
      rw [hop] at h
      obtain ⟨a', rfl⟩ : ∃ a', y = .tmp a' := by cases y <;> first | exact ⟨_, rfl⟩ | simp [accT] at h
      simp only [accT, Option.some.injEq] at h
      subst h
      simp only [evOp_lookup]
      rw [show evalT P env 0 (.tmp a') = V.get env a' from rfl]
      unfold evLookup
      cases mapT P t with
      | none => exact .inl ⟨none, fun st => rfl⟩
      | some q =>
        obtain ⟨kt, et⟩ := q
        simp only
        cases hv : V.get env a' with
        | mp k ver =>
          simp only
          cases evalT P env 0 z with
          | d q =>
            refine .inr ⟨k, rfl, .inl ⟨fun b => if b.ver = ver ∧ b.live = true ∧ keyOk (ek P kt) q = true then
              match mget b.vs q with
              | some r => match zeroW P et with
                | some z => some (lookV ok r z)
                | none => none
              | none => none
              else none, fun st => ?_⟩⟩
            simp only
            split
            · cases mget (st k).vs q with
              | none => rfl
              | some r =>
                simp only
                cases zeroW P et <;> rfl
            · rfl
          | _ => exact .inl ⟨none, fun st => rfl⟩
        | _ => exact .inl ⟨none, fun st => rfl⟩
    | store t y z =>
      rw [hop] at h
      obtain ⟨a', rfl⟩ : ∃ a', y = .tmp a' := by cases y <;> first | exact ⟨_, rfl⟩ | simp [accT] at h
      simp only [accT, Option.some.injEq] at h
      subst h
      simp only [evOp_store, evStore]
      rw [show evalT P env 0 (.tmp a') = V.get env a' from rfl]
      cases hv : V.get env a' with
      | p k ver i path =>
        refine .inr ⟨k, rfl, .inr ⟨fun b => if b.ver = ver ∧ b.live = true then match nth b.vs i with
          | some v => match getPath v path with
            | some old => if hasT P t old ∧ hasT P t (evalT P env t z) then match setPath v path (evalT P env t z) with
                | some v' => some ⟨b.ver, b.e, setN b.vs i v', true⟩
                | none => none
              else none
            | none => none
          | none => none
          else none, fun st => ?_⟩⟩
        simp only
        split
        · cases nth (st k).vs i with
          | none => rfl
          | some v =>
            simp only
            cases getPath v path with
            | none => rfl
            | some x =>
              simp only
              split
              · cases setPath v path (evalT P env t z) <;> rfl
              · rfl
        · rfl
      | _ => exact .inl ⟨none, fun st => rfl⟩
    | _ => rw [hop] at h; simp [accT] at h
  unfold OneBlk stepV
  cases o.guard with
  | none => exact key
  | some g =>
    obtain ⟨j, want⟩ := g
    simp only
    cases dstAt ops.toList j with
    | none => exact .inl ⟨none, fun _ => rfl⟩
    | some t =>
      simp only
      cases V.get env t with
      | d x =>
        cases x with
        | bool q =>
          simp only
          by_cases hq : q = want
          · simp only [hq, if_true]; exact key
          · simp only [hq, if_false]; exact .inl ⟨some (.tup []), fun _ => rfl⟩
        | _ => exact .inl ⟨none, fun _ => rfl⟩
      | tup vs => cases vs <;> first | exact .inl ⟨some (.tup []), fun _ => rfl⟩ | exact .inl ⟨none, fun _ => rfl⟩
      | _ => exact .inl ⟨none, fun _ => rfl⟩
theorem upd_comm (st : Store) {k k' : Key} (h : k ≠ k') (b b' : Blk) : upd (upd st k b) k' b' = upd (upd st k' b') k b := by
  funext q
  by_cases h1 : q = k
  · subst h1
    simp only [upd_same, upd_other _ _ _ h]
  · by_cases h2 : q = k'
    · subst h2
      simp only [upd_same, upd_other _ _ _ (Ne.symm h)]
    · simp only [upd_other _ _ _ h1, upd_other _ _ _ h2]
/-- Two accesses that lie apart may change places. -/
theorem swapD {x y : Oper} {a b : Tmp} {env e1 e2 : List V} {st s1 s2 : Store} (hap : x.apart ops y = true) (ha : accT x.op = some a) (hb : accT y.op = some b)
    (hk : ∀ k k', keyOfV (V.get env a) = some (some k) → keyOfV (V.get env b) = some (some k') → k ≠ k')
    (h1 : stepO P Γ call lv ops x env st = some (e1, s1)) (h2 : stepO P Γ call lv ops y e1 s1 = some (e2, s2)) :
    ∃ e1' s1', stepO P Γ call lv ops y env st = some (e1', s1') ∧ stepO P Γ call lv ops x e1' s1' = some (e2, s2) := by
  obtain ⟨a1, a2, a3⟩ := Oper.apart_spec hap
  obtain ⟨vx, hx, rfl⟩ := putR_inv h1
  obtain ⟨vy, hy, rfl⟩ := putR_inv h2
  rw [stepV_congr (agree_put a1)] at hy
  have back : ∀ st, stepV P Γ call lv ops x (putD env y.dst vy) st = stepV P Γ call lv ops x env st := fun st => stepV_congr (agree_put a3)
  have fin : ∀ s', stepV P Γ call lv ops y env st = some (vy, s') → stepV P Γ call lv ops x env s' = some (vx, s2) → ∃ e1' s1', stepO P Γ call lv ops y env st = some (e1', s1') ∧ stepO P Γ call lv ops x e1' s1' = some (putD (putD env x.dst vx) y.dst vy, s2) := by
    intro s' g1 g2
    refine ⟨putD env y.dst vy, s', by rw [stepO, g1]; rfl, ?_⟩
    rw [stepO, back, g2, putD_comm env vx vy a2]
    rfl
  rcases acc_one (P := P) (Γ := Γ) (call := call) (lv := lv) (ops := ops) ha env with ⟨f, hf⟩ | ⟨k, hka, hg⟩
  · rw [hf] at hx
    obtain ⟨rfl, rfl⟩ := pureO_inv hx
    exact fin s2 hy (by rw [hf]; rfl)
  rcases acc_one (P := P) (Γ := Γ) (call := call) (lv := lv) (ops := ops) hb env with ⟨f, hf⟩ | ⟨k', hkb, hg'⟩
  · rw [hf] at hy
    obtain ⟨rfl, rfl⟩ := pureO_inv hy
    exact fin st (by rw [hf]; rfl) hx
  have hne := hk k k' hka hkb
  rcases hg with ⟨g, hg⟩ | ⟨g, hg⟩
  · rw [hg] at hx
    obtain ⟨hx, rfl⟩ := pureO_inv hx
    rcases hg' with ⟨g', hg'⟩ | ⟨g', hg'⟩
    · rw [hg'] at hy
      obtain ⟨hy, rfl⟩ := pureO_inv hy
      exact fin _ (by rw [hg', hy]; rfl) (by rw [hg, hx]; rfl)
    · have hy0 := hy
      rw [hg'] at hy
      cases hq : g' (s1 k') with
      | none => rw [hq] at hy; cases hy
      | some bl =>
        rw [hq] at hy
        cases hy
        exact fin _ hy0 (by rw [hg, upd_other _ _ _ hne, hx]; rfl)
  · have hx0 := hx
    rw [hg] at hx
    cases hq : g (st k) with
    | none => rw [hq] at hx; cases hx
    | some bl =>
      rw [hq] at hx
      cases hx
      rcases hg' with ⟨g', hg'⟩ | ⟨g', hg'⟩
      · rw [hg', upd_other _ _ _ (Ne.symm hne)] at hy
        obtain ⟨hyy, hyz⟩ := pureO_inv hy
        exact fin st (by rw [hg', hyy]; rfl) (by rw [hyz]; exact hx0)
      · rw [hg', upd_other _ _ _ (Ne.symm hne)] at hy
        cases hq' : g' (st k') with
        | none => rw [hq'] at hy; cases hy
        | some bl' =>
          rw [hq'] at hy
          cases hy
          refine fin (upd st k' bl') (by rw [hg', hq']) ?_
          rw [hg, upd_other _ _ _ hne, hq, upd_comm st hne]
/-- The two may change places, as the masks say. -/
def MayD (env0 : List V) (l : List Oper) (m : List Bool) (x y : Op) : Prop := dynPair l m x y = true ∧ apartAll (sel m env0) = true
theorem get_sel : ∀ {m : List Bool} {env : List V} {j : Nat}, m.getD j false = true → (∃ r, keyOfV (V.get env j) = some r) → V.get env j ∈ sel m env
  | [], _, j, h, _ => by simp at h
  | _ :: _, [], j, _, h => by obtain ⟨r, h⟩ := h; cases h
  | true :: m, v :: env, 0, _, _ => by simp [sel, V.get]
  | false :: m, v :: env, 0, h, _ => by simp at h
  | true :: m, v :: env, j + 1, h, hk => List.mem_cons_of_mem _ (get_sel (m := m) (env := env) (j := j) (by simpa using h) hk)
  | false :: m, v :: env, j + 1, h, hk => get_sel (m := m) (env := env) (j := j) (by simpa using h) hk
theorem apartL_mem {v : V} : ∀ {l : List V}, apartL v l = true → ∀ u ∈ l, apartV v u = true
  | [], _, u, hu => by cases hu
  | x :: l, h, u, hu => by
    simp only [apartL, Bool.and_eq_true] at h
    rcases List.mem_cons.1 hu with rfl | hu
    · exact h.1
    · exact apartL_mem h.2 u hu
theorem apart_sel : ∀ {m : List Bool} {env : List V} {i j : Nat}, apartAll (sel m env) = true → m.getD i false = true → m.getD j false = true → i < j → (∃ r, keyOfV (V.get env i) = some r) → (∃ r, keyOfV (V.get env j) = some r) → apartV (V.get env i) (V.get env j) = true
  | [], _, i, j, _, h, _, _, _, _ => by simp at h
  | _ :: _, [], i, j, _, _, _, _, h, _ => by obtain ⟨r, h⟩ := h; cases h
  | true :: m, v :: env, 0, j + 1, ha, _, hj, _, _, hkj => by
    simp only [sel, apartAll, Bool.and_eq_true] at ha
    exact apartL_mem ha.1 _ (get_sel (by simpa using hj) hkj)
  | false :: m, v :: env, 0, j + 1, _, h, _, _, _, _ => by simp at h
  | _ :: _, _ :: _, _ , 0, _, _, _, hlt, _, _ => by omega
  | true :: m, v :: env, i + 1, j + 1, ha, hi, hj, hlt, hki, hkj => by
    simp only [sel, apartAll, Bool.and_eq_true] at ha
    exact apart_sel (m := m) (env := env) (i := i) (j := j) ha.2 (by simpa using hi) (by simpa using hj) (by omega) hki hkj
  | false :: m, v :: env, i + 1, j + 1, ha, hi, hj, hlt, hki, hkj => apart_sel (m := m) (env := env) (i := i) (j := j) (by simpa [sel] using ha) (by simpa using hi) (by simpa using hj) (by omega) hki hkj
theorem apartV_ne {u v : V} {k k' : Key} (h : apartV u v = true) (h1 : keyOfV u = some (some k)) (h2 : keyOfV v = some (some k')) : k ≠ k' := by
  unfold apartV at h
  rw [h1, h2] at h
  simp only [Bool.not_eq_true'] at h
  intro e
  subst e
  rw [keq_iff.2 rfl] at h
  cases h
theorem MayD.keys {env0 env : List V} {m : List Bool} {x y : Op} (h : MayD env0 ops.toList m x y) (hg : Good ops.toList env0 env) :
    ∃ a b, accT x = some a ∧ accT y = some b ∧ ∀ k k', keyOfV (V.get env a) = some (some k) → keyOfV (V.get env b) = some (some k') → k ≠ k' := by
  obtain ⟨h, hap⟩ := h
  unfold dynPair at h
  split at h
  · rename_i a b ha hb
    split at h
    · rename_i r q hr hq
      simp only [Bool.and_eq_true, bne_iff_ne, ne_eq] at h
      obtain ⟨⟨hmr, hmq⟩, hne⟩ := h
      refine ⟨a, b, ha, hb, fun k k' h1 h2 => ?_⟩
      have e1 : keyOfV (V.get env0 r) = some (some k) := by
        rcases hg.der a r hr with h | h
        · rw [h] at h1; cases h1
        · rw [← h]; exact h1
      have e2 : keyOfV (V.get env0 q) = some (some k') := by
        rcases hg.der b q hq with h | h
        · rw [h] at h2; cases h2
        · rw [← h]; exact h2
      rcases Nat.lt_or_gt_of_ne hne with hlt | hlt
      · exact apartV_ne (apart_sel hap hmr hmq hlt ⟨_, e1⟩ ⟨_, e2⟩) e1 e2
      · exact (apartV_ne (apart_sel hap hmq hmr hlt ⟨_, e2⟩ ⟨_, e1⟩) e2 e1).symm
    · cases h
  · cases h
theorem free_und : ∀ {u : List Bool} {env : List V} {a : Nat}, freeAll (sel u env) = true → u.getD a false = true → keyOfV (V.get env a) = none
  | [], _, a, _, h => by simp at h
  | _ :: _, [], a, _, _ => rfl
  | true :: u, v :: env, 0, h, _ => by
    simp only [sel] at h
    cases v <;> simp [freeAll] at h <;> rfl
  | false :: u, v :: env, 0, _, h => by simp at h
  | true :: u, v :: env, a + 1, h, ha => by
    simp only [sel] at h
    exact free_und (u := u) (env := env) (a := a) (by cases v <;> simp [freeAll] at h; exact h) (by simpa using ha)
  | false :: u, v :: env, a + 1, h, ha => free_und (u := u) (env := env) (a := a) (by simpa [sel] using h) (by simpa using ha)
theorem Good.start {u : List Bool} {env : List V} (hr : rootsOk ops.toList u = true) (hu : freeAll (sel u env) = true) : Good ops.toList env env := by
  refine ⟨fun a r ha => ?_⟩
  cases hf : ops.toList.find? (fun o => o.dst == some a) with
  | none =>
    right
    simp only [rootT, hf, Option.some.injEq] at ha
    rw [ha]
  | some o =>
    left
    have hm := List.mem_of_find?_eq_some hf
    have hd := List.find?_some hf
    simp only [beq_iff_eq] at hd
    unfold rootsOk at hr
    rw [List.all_eq_true] at hr
    have := hr o hm
    rw [hd] at this
    simp only [ha, Bool.and_eq_true] at this
    exact free_und hu this.2

/-- An operation brought to the front. -/
theorem front {nc : Bool} (hnc : nc = true → call = noCall) {env0 : List V} {m u : List Bool} {o : Oper} {post : List Oper} {r : List V × Store} : ∀ (pre : List Oper) (env : List V) (st : Store), (∀ x ∈ pre, x ∈ ops.toList ∧ x.apart ops o = true ∧ (comm (cls nc (Γ.map (·.1)) x.op) (cls nc (Γ.map (·.1)) o.op) = true ∨ MayD env0 ops.toList m x.op o.op)) →
    (m = [] ∨ (rootsOk ops.toList u = true ∧ Good ops.toList env0 env)) →
    evOps P Γ call lv ops.toList (pre ++ o :: post) env st = some r → ∃ e1 s1, stepO P Γ call lv ops o env st = some (e1, s1) ∧ evOps P Γ call lv ops.toList (pre ++ post) e1 s1 = some r
  | [], env, st, _, _, h => by
    rw [List.nil_append, evOps_cons] at h
    cases hs : stepO P Γ call lv ops o env st with
    | none => rw [hs] at h; cases h
    | some q => obtain ⟨e1, s1⟩ := q; rw [hs] at h; exact ⟨e1, s1, rfl, h⟩
  | x :: pre, env, st, hx, hG, h => by
    rw [List.cons_append, evOps_cons] at h
    cases hs : stepO P Γ call lv ops x env st with
    | none => rw [hs] at h; cases h
    | some q =>
      obtain ⟨e1, s1⟩ := q
      rw [hs, thenO_s] at h
      obtain ⟨hxm, hap, hc⟩ := hx x (by simp)
      obtain ⟨e2, s2, g1, g2⟩ := front hnc pre e1 s1 (fun y hy => hx y (by simp [hy])) (hG.imp id fun ⟨q1, q2⟩ => ⟨q1, q2.step q1 hxm hs⟩) h
      have hsw : ∃ e1' s1', stepO P Γ call lv ops o env st = some (e1', s1') ∧ stepO P Γ call lv ops x e1' s1' = some (e2, s2) := by
        rcases hc with hc | hc
        · exact swap hnc hap hc hs g1
        · rcases hG with rfl | ⟨_, hG⟩
          · exfalso
            have := hc.1
            unfold dynPair at this
            repeat' split at this
            all_goals simp at this
          · obtain ⟨a, b, ha, hb, hk⟩ := hc.keys hG
            exact swapD hap ha hb hk hs g1
      obtain ⟨e1', s1', f1, f2⟩ := hsw
      refine ⟨e1', s1', f1, ?_⟩
      rw [List.cons_append, evOps_cons, f2, thenO_s]
      exact g2

/-! ### which come first -/
def maskOne (acc : List Nat) (l : List Edge) : Nat := match l with
  | [] => 0
  | e :: r => if Region.binds .any e then 2 ^ e.on ||| acc.getD e.on 0 ||| maskOne acc r else maskOne acc r
def masksGo : List Oper → List Nat → List Nat
  | [], acc => acc
  | o :: r, acc => masksGo r (acc ++ [maskOne acc o.after.toList])
def drawOk (nc : Bool) (G : List FuncId) (m u : List Bool) (ops : Array Oper) : Bool :=
  let ms := masksGo ops.toList []
  (m.isEmpty || rootsOk ops.toList u) && ops.toList.zipIdx.all fun (o, i) => (o.after.toList.all fun e => !Region.binds .any e || decide (e.on < i)) &&
    ops.toList.zipIdx.all fun (x, j) => !decide (j < i) || (ms.getD i 0).testBit j || (x.apart ops o && (comm (cls nc G x.op) (cls nc G o.op) || dynPair ops.toList m x.op o.op))

theorem testBit_two_pow' {n j : Nat} (h : (2 ^ n).testBit j = true) : j = n := by
  rw [Nat.testBit_two_pow] at h
  simpa using Eq.symm (of_decide_eq_true h)
theorem maskOne_spec {acc : List Nat} {j : Nat} : ∀ {l : List Edge}, (maskOne acc l).testBit j = true → ∃ e ∈ l, Region.binds .any e = true ∧ (j = e.on ∨ (acc.getD e.on 0).testBit j = true)
  | [], h => by simp [maskOne] at h
  | e :: r, h => by
    simp only [maskOne] at h
    split at h
    · rename_i hb
      rw [Nat.testBit_or, Nat.testBit_or, Bool.or_eq_true, Bool.or_eq_true] at h
      rcases h with (h | h) | h
      · exact ⟨e, by simp, hb, .inl (testBit_two_pow' h)⟩
      · exact ⟨e, by simp, hb, .inr h⟩
      · obtain ⟨e', h1, h2⟩ := maskOne_spec h
        exact ⟨e', by simp [h1], h2⟩
    · obtain ⟨e', h1, h2⟩ := maskOne_spec h
      exact ⟨e', by simp [h1], h2⟩
theorem masksGo_spec : ∀ (l : List Oper) (acc : List Nat), (masksGo l acc).take acc.length = acc ∧ ∀ i o, l[i]? = some o → (masksGo l acc)[acc.length + i]? = some (maskOne ((masksGo l acc).take (acc.length + i)) o.after.toList)
  | [], acc => by simp [masksGo]
  | x :: l, acc => by
    obtain ⟨h1, h2⟩ := masksGo_spec l (acc ++ [maskOne acc x.after.toList])
    simp only [masksGo]
    have h1' : (masksGo l (acc ++ [maskOne acc x.after.toList])).take acc.length = acc := by
      have := congrArg (List.take acc.length) h1
      rw [List.take_take] at this
      simpa using this
    refine ⟨h1', fun i o hi => ?_⟩
    cases i with
    | zero =>
      simp at hi; subst hi
      rw [Nat.add_zero, h1']
      have := congrArg (fun l => l[acc.length]?) h1
      simp only [List.length_append, List.length_cons, List.length_nil, Nat.zero_add] at this
      rw [List.getElem?_take_of_lt (by omega)] at this
      rw [this]; simp
    | succ i =>
      simp at hi
      have := h2 i o hi
      simp only [List.length_append, List.length_cons, List.length_nil, Nat.zero_add] at this
      rw [show acc.length + (i + 1) = acc.length + 1 + i by omega]
      exact this
end
end Go.Ev
