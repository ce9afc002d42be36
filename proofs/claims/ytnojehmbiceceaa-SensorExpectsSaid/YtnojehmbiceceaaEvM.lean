/- The evaluator's soundness, twelfth part: a region whose order is left open. -/
import Derived.Test.YtnojehmbiceceaaEvL
set_option linter.unusedVariables false
set_option linter.unusedSimpArgs false
set_option linter.unusedSectionVars false
namespace Go.Ev
open Go.RowKit

section
variable (P : Program) (Γ : Specs) (call : Caller) (lv : Nat) (ops : Array Oper)
def stepV (o : Oper) (env : List V) (st : Store) : Option (V × Store) :=
  match o.guard with
  | none => evOp P Γ call lv o.dst o.type env st o.op
  | some (j, want) => match dstAt ops.toList j with
    | some t => match V.get env t with
      | .d (.bool q) => if q = want then evOp P Γ call lv o.dst o.type env st o.op else some (.tup [], st)
      | .tup [] => some (.tup [], st)
      | _ => none
    | none => none
def stepO (o : Oper) (env : List V) (st : Store) : Option (List V × Store) := putR env o.dst (stepV P Γ call lv ops o env st)
end
section
variable {P : Program} {Γ : Specs} {call : Caller} {lv : Nat} {ops : Array Oper}

theorem evOps_cons (o : Oper) (r : List Oper) (env : List V) (st : Store) : evOps P Γ call lv ops.toList (o :: r) env st = thenO (stepO P Γ call lv ops o env st) (evOps P Γ call lv ops.toList r) := by
  simp only [evOps, stepO, stepV]
  cases o.guard with
  | none => rfl
  | some g =>
    obtain ⟨j, want⟩ := g
    simp only
    cases dstAt ops.toList j with
    | none => rfl
    | some t =>
      simp only
      cases V.get env t with
      | d x =>
        cases x with
        | bool q => simp only [condR_b]; split <;> rfl
        | _ => rfl
      | tup vs => cases vs <;> rfl
      | _ => rfl

theorem dstAt_eq (j : Nat) : dstAt ops.toList j = (ops[j]?).bind (·.dst) := by
  unfold dstAt
  rw [nth_eq, Array.getElem?_toList]
  cases ops[j]? <;> rfl

/-- Frames that agree where an operation looks. -/
def Agree (P : Program) (ops : Array Oper) (o : Oper) (env env' : List V) : Prop := ∀ t ∈ o.looksAt ops, V.get env t = V.get env' t
theorem Agree.same {o : Oper} {env env' : List V} (h : Agree P ops o env env') : Same P env env' o.op := by
  intro x hx t
  cases x with
  | tmp i =>
    refine h i ?_
    unfold Oper.looksAt
    exact List.mem_append.2 (.inl (List.mem_filterMap.2 ⟨_, hx, rfl⟩))
  | _ => rfl
theorem stepV_congr {o : Oper} {env env' : List V} {st : Store} (h : Agree P ops o env env') : stepV P Γ call lv ops o env st = stepV P Γ call lv ops o env' st := by
  unfold stepV
  rw [evOp_congr (Agree.same h)]
  cases hg : o.guard with
  | none => rfl
  | some g =>
    obtain ⟨j, want⟩ := g
    simp only
    rw [dstAt_eq]
    cases hd : (ops[j]?).bind (·.dst) with
    | none => rfl
    | some t =>
      have : V.get env t = V.get env' t := h t (by
        unfold Oper.looksAt
        rw [hg]
        simp [hd])
      simp only [this]
theorem agree_put {o : Oper} {env : List V} {d : Option Tmp} {v : V} (h : ∀ t, d = some t → t ∉ o.looksAt ops) : Agree P ops o (putD env d v) env := by
  intro t ht
  cases d with
  | none => rfl
  | some d =>
    have hne : d ≠ t := fun e => h d rfl (e ▸ ht)
    show V.get (V.put env d v) t = _
    rw [get_eq, get_eq, put_eq]
    simp [List.getD, List.getElem?_set_ne hne]
theorem putD_comm (env : List V) {x y : Option Tmp} (u v : V) (h : ∀ d, x = some d → y ≠ some d) : putD (putD env x u) y v = putD (putD env y v) x u := by
  cases x with
  | none => cases y <;> rfl
  | some a =>
    cases y with
    | none => rfl
    | some b =>
      have hne : a ≠ b := fun e => h a rfl (by rw [e])
      show V.put (V.put env a u) b v = V.put (V.put env b v) a u
      rw [put_eq, put_eq, put_eq, put_eq]
      exact List.set_comm _ _ hne

variable {G : List FuncId}
theorem step0 {nc : Bool} {o : Oper} (h : cls nc G o.op = 0) {env : List V} : ∃ f : Option V, ∀ st, stepV P Γ call lv ops o env st = pureO st f := by
  obtain ⟨f, hf⟩ := cls0 (P := P) (Γ := Γ) (call := call) (lv := lv) h (dst := o.dst) (ty := o.type) (env := env)
  unfold stepV
  cases o.guard with
  | none => exact ⟨f, hf⟩
  | some g =>
    obtain ⟨j, want⟩ := g
    simp only
    cases dstAt ops.toList j with
    | none => exact ⟨none, fun _ => rfl⟩
    | some t =>
      simp only
      cases V.get env t with
      | d x =>
        cases x with
        | bool q =>
          simp only
          by_cases hq : q = want
          · simp only [hq, if_true]; exact ⟨f, hf⟩
          · simp only [hq, if_false]; exact ⟨some (.tup []), fun _ => rfl⟩
        | _ => exact ⟨none, fun _ => rfl⟩
      | tup vs => cases vs <;> first | exact ⟨some (.tup []), fun _ => rfl⟩ | exact ⟨none, fun _ => rfl⟩
      | _ => exact ⟨none, fun _ => rfl⟩
theorem step1 {nc : Bool} (hnc : nc = true → call = noCall) {o : Oper} (h : cls nc (Γ.map (·.1)) o.op = 1) {env : List V} {st st' : Store} {v : V} (he : stepV P Γ call lv ops o env st = some (v, st')) : st' = st := by
  unfold stepV at he
  repeat' split at he
  all_goals first
    | exact cls1 hnc h he
    | (cases he; rfl)
    | cases he
theorem step2 {nc : Bool} {o : Oper} (h : cls nc G o.op = 2) {env : List V} : (∃ f : Option V, ∀ st, stepV P Γ call lv ops o env st = pureO st f) ∨
    ∃ (d : Tmp) (e : TypeId) (vs : List V) (v : Nat → V), o.dst = some d ∧ ∀ st, stepV P Γ call lv ops o env st = some (v ((st (lv, d)).ver + 1), newBlk st (lv, d) e vs) := by
  have h2 := cls2 (P := P) (Γ := Γ) (call := call) (lv := lv) h (dst := o.dst) (ty := o.type) (env := env)
  have h2' : (∃ f : Option V, ∀ st, evOp P Γ call lv o.dst o.type env st o.op = pureO st f) ∨ ∃ (d : Tmp) (e : TypeId) (vs : List V) (v : Nat → V), o.dst = some d ∧ ∀ st, evOp P Γ call lv o.dst o.type env st o.op = some (v ((st (lv, d)).ver + 1), newBlk st (lv, d) e vs) := by
    rcases h2 with h2 | h2
    · exact .inl ⟨none, h2⟩
    · exact .inr h2
  unfold stepV
  cases o.guard with
  | none => exact h2'
  | some g =>
    obtain ⟨j, want⟩ := g
    simp only
    cases dstAt ops.toList j with
    | none => exact .inl ⟨none, fun _ => rfl⟩
    | some t =>
      simp only
      cases V.get env t with
      | d x =>
        cases x with
        | bool q =>
          simp only
          by_cases hq : q = want
          · simp only [hq, if_true]; exact h2'
          · simp only [hq, if_false]; exact .inl ⟨some (.tup []), fun _ => rfl⟩
        | _ => exact .inl ⟨none, fun _ => rfl⟩
      | tup vs => cases vs <;> first | exact .inl ⟨some (.tup []), fun _ => rfl⟩ | exact .inl ⟨none, fun _ => rfl⟩
      | _ => exact .inl ⟨none, fun _ => rfl⟩
theorem newBlk_comm (st : Store) {k k' : Key} (h : k ≠ k') (e e' : TypeId) (vs vs' : List V) : newBlk (newBlk st k e vs) k' e' vs' = newBlk (newBlk st k' e' vs') k e vs := by
  funext q
  unfold newBlk
  by_cases h1 : q = k
  · subst h1
    simp only [upd_same, upd_other _ _ _ h, upd_other _ _ _ (Ne.symm h)]
  · by_cases h2 : q = k'
    · subst h2
      simp only [upd_same, upd_other _ _ _ h, upd_other _ _ _ (Ne.symm h)]
    · simp only [upd_other _ _ _ h1, upd_other _ _ _ h2]

theorem putR_inv {env : List V} {d : Option Tmp} {r : Option (V × Store)} {e1 : List V} {s1 : Store} (h : putR env d r = some (e1, s1)) : ∃ v, r = some (v, s1) ∧ e1 = putD env d v := by
  cases r with
  | none => cases h
  | some q => obtain ⟨v, s⟩ := q; cases h; exact ⟨v, rfl, rfl⟩

/-- Two operations that may change places. -/
theorem swap {nc : Bool} (hnc : nc = true → call = noCall) {x y : Oper} {env e1 e2 : List V} {st s1 s2 : Store} (hap : x.apart ops y = true) (hc : comm (cls nc (Γ.map (·.1)) x.op) (cls nc (Γ.map (·.1)) y.op) = true)
    (h1 : stepO P Γ call lv ops x env st = some (e1, s1)) (h2 : stepO P Γ call lv ops y e1 s1 = some (e2, s2)) :
    ∃ e1' s1', stepO P Γ call lv ops y env st = some (e1', s1') ∧ stepO P Γ call lv ops x e1' s1' = some (e2, s2) := by
  obtain ⟨a1, a2, a3⟩ := Oper.apart_spec hap
  obtain ⟨vx, hx, rfl⟩ := putR_inv h1
  obtain ⟨vy, hy, rfl⟩ := putR_inv h2
  rw [stepV_congr (agree_put a1)] at hy
  have back : ∀ st, stepV P Γ call lv ops x (putD env y.dst vy) st = stepV P Γ call lv ops x env st := fun st => stepV_congr (agree_put a3)
  have fin : ∀ s', stepV P Γ call lv ops y env st = some (vy, s') → stepV P Γ call lv ops x env s' = some (vx, s2) → ∃ e1' s1', stepO P Γ call lv ops y env st = some (e1', s1') ∧ stepO P Γ call lv ops x e1' s1' = some (putD (putD env x.dst vx) y.dst vy, s2) := by
    intro s' g1 g2
    refine ⟨putD env y.dst vy, s', by rw [stepO, g1]; rfl, ?_⟩
    rw [stepO, back, g2, putD_comm env vx vy a2]
    rfl
  simp only [comm, Bool.or_eq_true, beq_iff_eq, Bool.and_eq_true] at hc
  rcases hc with ((hc | hc) | ⟨c1, c2⟩) | ⟨c1, c2⟩
  · obtain ⟨f, hf⟩ := step0 (P := P) (Γ := Γ) (call := call) (lv := lv) (ops := ops) hc (env := env)
    rw [hf] at hx
    obtain ⟨rfl, rfl⟩ := pureO_inv hx
    exact fin s2 hy (by rw [hf]; rfl)
  · obtain ⟨f, hf⟩ := step0 (P := P) (Γ := Γ) (call := call) (lv := lv) (ops := ops) hc (env := env)
    rw [hf] at hy
    obtain ⟨rfl, rfl⟩ := pureO_inv hy
    exact fin st (by rw [hf]; rfl) hx
  · have e1 := step1 hnc c1 hx
    subst e1
    have e2 := step1 hnc c2 hy
    subst e2
    exact fin _ hy hx
  · rcases step2 (P := P) (Γ := Γ) (call := call) (lv := lv) (ops := ops) c1 (env := env) with ⟨f, hf⟩ | ⟨dx, ex, vsx, wx, hdx, hfx⟩
    · rw [hf] at hx
      obtain ⟨rfl, rfl⟩ := pureO_inv hx
      exact fin s2 hy (by rw [hf]; rfl)
    · rcases step2 (P := P) (Γ := Γ) (call := call) (lv := lv) (ops := ops) c2 (env := env) with ⟨f, hf⟩ | ⟨dy, ey, vsy, wy, hdy, hfy⟩
      · rw [hf] at hy
        obtain ⟨rfl, rfl⟩ := pureO_inv hy
        exact fin st (by rw [hf]; rfl) hx
      · have hne : (lv, dx) ≠ (lv, dy) := by
          intro e
          have : dx = dy := by injection e
          exact a2 dx hdx (by rw [this]; exact hdy)
        rw [hfx] at hx
        cases hx
        rw [hfy] at hy
        cases hy
        have k1 : (newBlk st (lv, dx) ex vsx (lv, dy)).ver = (st (lv, dy)).ver := by rw [newBlk, upd_other _ _ _ (Ne.symm hne)]
        have k2 : (newBlk st (lv, dy) ey vsy (lv, dx)).ver = (st (lv, dx)).ver := by rw [newBlk, upd_other _ _ _ hne]
        refine fin (newBlk st (lv, dy) ey vsy) (by rw [hfy, k1]) ?_
        rw [hfx, k2, newBlk_comm st hne]

/-- An operation brought to the front. -/
theorem front {nc : Bool} (hnc : nc = true → call = noCall) {o : Oper} {post : List Oper} {r : List V × Store} : ∀ (pre : List Oper) (env : List V) (st : Store), (∀ x ∈ pre, x.apart ops o = true ∧ comm (cls nc (Γ.map (·.1)) x.op) (cls nc (Γ.map (·.1)) o.op) = true) →
    evOps P Γ call lv ops.toList (pre ++ o :: post) env st = some r → ∃ e1 s1, stepO P Γ call lv ops o env st = some (e1, s1) ∧ evOps P Γ call lv ops.toList (pre ++ post) e1 s1 = some r
  | [], env, st, _, h => by
    rw [List.nil_append, evOps_cons] at h
    cases hs : stepO P Γ call lv ops o env st with
    | none => rw [hs] at h; cases h
    | some q => obtain ⟨e1, s1⟩ := q; rw [hs] at h; exact ⟨e1, s1, rfl, h⟩
  | x :: pre, env, st, hx, h => by
    rw [List.cons_append, evOps_cons] at h
    cases hs : stepO P Γ call lv ops x env st with
    | none => rw [hs] at h; cases h
    | some q =>
      obtain ⟨e1, s1⟩ := q
      rw [hs, thenO_s] at h
      obtain ⟨e2, s2, g1, g2⟩ := front hnc pre e1 s1 (fun y hy => hx y (by simp [hy])) h
      obtain ⟨hap, hc⟩ := hx x (by simp)
      obtain ⟨e1', s1', f1, f2⟩ := swap hnc hap hc hs g1
      refine ⟨e1', s1', f1, ?_⟩
      rw [List.cons_append, evOps_cons, f2, thenO_s]
      exact g2

/-! ### which come first -/
def maskOne (acc : List Nat) (l : List Edge) : Nat := match l with
  | [] => 0
  | e :: r => if Region.binds .any e then 2 ^ e.on ||| acc.getD e.on 0 ||| maskOne acc r else maskOne acc r
def masksGo : List Oper → List Nat → List Nat
  | [], acc => acc
  | o :: r, acc => masksGo r (acc ++ [maskOne acc o.after.toList])
def drawOk (nc : Bool) (G : List FuncId) (ops : Array Oper) : Bool :=
  let ms := masksGo ops.toList []
  ops.toList.zipIdx.all fun (o, i) => (o.after.toList.all fun e => !Region.binds .any e || decide (e.on < i)) &&
    ops.toList.zipIdx.all fun (x, j) => !decide (j < i) || (ms.getD i 0).testBit j || (x.apart ops o && comm (cls nc G x.op) (cls nc G o.op))

theorem testBit_two_pow' {n j : Nat} (h : (2 ^ n).testBit j = true) : j = n := by
  rw [Nat.testBit_two_pow] at h
  simpa using Eq.symm (of_decide_eq_true h)
theorem maskOne_spec {acc : List Nat} {j : Nat} : ∀ {l : List Edge}, (maskOne acc l).testBit j = true → ∃ e ∈ l, Region.binds .any e = true ∧ (j = e.on ∨ (acc.getD e.on 0).testBit j = true)
  | [], h => by simp [maskOne] at h
  | e :: r, h => by
    simp only [maskOne] at h
    split at h
    · rename_i hb
      rw [Nat.testBit_or, Nat.testBit_or, Bool.or_eq_true, Bool.or_eq_true] at h
      rcases h with (h | h) | h
      · exact ⟨e, by simp, hb, .inl (testBit_two_pow' h)⟩
      · exact ⟨e, by simp, hb, .inr h⟩
      · obtain ⟨e', h1, h2⟩ := maskOne_spec h
        exact ⟨e', by simp [h1], h2⟩
    · obtain ⟨e', h1, h2⟩ := maskOne_spec h
      exact ⟨e', by simp [h1], h2⟩
theorem masksGo_spec : ∀ (l : List Oper) (acc : List Nat), (masksGo l acc).take acc.length = acc ∧ ∀ i o, l[i]? = some o → (masksGo l acc)[acc.length + i]? = some (maskOne ((masksGo l acc).take (acc.length + i)) o.after.toList)
  | [], acc => by simp [masksGo]
  | x :: l, acc => by
    obtain ⟨h1, h2⟩ := masksGo_spec l (acc ++ [maskOne acc x.after.toList])
    simp only [masksGo]
    have h1' : (masksGo l (acc ++ [maskOne acc x.after.toList])).take acc.length = acc := by
      have := congrArg (List.take acc.length) h1
      rw [List.take_take] at this
      simpa using this
    refine ⟨h1', fun i o hi => ?_⟩
    cases i with
    | zero =>
      simp at hi; subst hi
      rw [Nat.add_zero, h1']
      have := congrArg (fun l => l[acc.length]?) h1
      simp only [List.length_append, List.length_cons, List.length_nil, Nat.zero_add] at this
      rw [List.getElem?_take_of_lt (by omega)] at this
      rw [this]; simp
    | succ i =>
      simp at hi
      have := h2 i o hi
      simp only [List.length_append, List.length_cons, List.length_nil, Nat.zero_add] at this
      rw [show acc.length + (i + 1) = acc.length + 1 + i by omega]
      exact this
end
end Go.Ev
