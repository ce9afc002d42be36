/- The evaluator's soundness, fourteenth part: regions, the code, functions. -/
import Derived.Test.YtmhjmjodchbhlaaREvN
set_option linter.unusedVariables false
set_option linter.unusedSimpArgs false
set_option linter.unusedSectionVars false
namespace Go.Ev
open Go.RowKit

/-- What is left to show behind a piece of code. -/
def Cont (P : Program) (B0 : Nat) (S : Nat → Prop) (σ : Sig) (st : Store) (w : World) (env' : List V) (st' : Store) (K : Act → World → Prop) : Prop :=
  ∀ S' σ' w' a', Inv P B0 S' σ' st' w' → Evo S σ st w S' σ' st' w' → Below B0 w w' → EnvRel P S' σ' st' w' env' a'.tmps → a'.defers = [] → K a' w'

section
variable {P : Program} {B0 : Nat} {S : Nat → Prop} {σ : Sig} {st : Store} {w : World} {env : List V} {a : Act} {Γ : Specs} {call : Caller} {lv : Nat} {ops : Array Oper}

theorem Cont.step {S1 : Nat → Prop} {σ1 : Sig} {st1 : Store} {w1 : World} {env' : List V} {st' : Store} {K : Act → World → Prop} (h : Cont P B0 S σ st w env' st' K) (hE : Evo S σ st w S1 σ1 st1 w1) (hb : Below B0 w w1) : Cont P B0 S1 σ1 st1 w1 env' st' K :=
  fun S' σ' w' a' h1 h2 h3 h4 h5 => h S' σ' w' a' h1 (hE.trans h2) (hb.trans h3) h4 h5
theorem put_defers (d : Option Tmp) (v : Value) (h : a.defers = []) : (a.put d v).defers = [] := by cases d <;> exact h

theorem undef_rel : RelV P S σ st w (.tup []) undef := ⟨[], rfl, rfl⟩
theorem getD_some {tmps : Array Value} {t : Nat} {v : Value} (h : tmps.getD t undef = v) (hv : v ≠ undef) : tmps[t]? = some v := by
  rw [Array.getD_eq_getD_getElem?] at h
  cases hq : tmps[t]? with
  | none => rw [hq] at h; exact absurd h.symm hv
  | some u => rw [hq] at h; simp at h; rw [h]

theorem step_sound {o : Oper} {env' : List V} {st' : Store} {K : Act → World → Prop} {Q : Exit → Act → World → Prop} (hΓ : ∀ g s, look Γ g = some s → SpecOk P g s) (hcall : CallerOk P call)
    (h : stepO P Γ call lv ops o env st = some (env', st')) (hI : Inv P B0 S σ st w) (hrel : EnvRel P S σ st w env a.tmps) (hd : a.defers = []) (hK : Cont P B0 S σ st w env' st' K) :
    if Region.wanted o (yielded ops a.tmps) then o.wp P a w K Q ∨ (o.asks P a w ∧ LetsOut Q) else K (a.put o.dst undef) w := by
  obtain ⟨v, hv, rfl⟩ := putR_inv h
  -- the operation itself
  have hrun : evOp P Γ call lv o.dst o.type env st o.op = some (v, st') → o.wp P a w K Q := by
    intro hop
    by_cases hc : isCall o.op = true
    · have : ∃ f args ts, o.op = .call { callee := .value f, args := args, argTypes := ts } := by
        unfold isCall at hc
        split at hc
        · rename_i f args ts ho; exact ⟨f, args, ts, ho⟩
        · cases hc
      obtain ⟨f, args, ts, ho⟩ := this
      rw [ho, evOp_call] at hop
      obtain ⟨g, caps, hfv, hin⟩ := evCall_sound (vals := args.toList.map a.eval) hΓ hcall hop hI (evalT_rel hrel 0 f) (zip_swap (evArgs_rel hrel _ _)) (by simp [evArgs_length])
      refine wp_of_callIn hin ?_ ?_
      · unfold execOp
        simp only [ho, resolve, invoke, Sem.run_bind, hfv, Deferred.ofValue, Sem.run_pure, Result.andThen_ok]
        have e1 : (#[] ++ Array.map a.eval args ++ caps.toArray) = (args.toList.map a.eval ++ caps).toArray := by
          rw [Array.empty_append]
          apply Array.ext'
          simp
        rw [e1]
      · intro val w' ⟨S', σ', h1, h2, h3, h4⟩
        exact hK S' σ' w' _ h1 h2 h3 ((hrel.mono h2).putD h4 o.dst) (put_defers _ _ hd)
    · obtain ⟨val, nx, w', S', σ', h1, h2, h3, h4, h5, h6⟩ := op_sound hI hrel (by simpa using hc) hop
      unfold Oper.wp
      rw [h1]
      have hk := hK S' σ' w' (a.put o.dst val) h3 h4 h5 ((hrel.mono h4).putD h6 o.dst) (put_defers _ _ hd)
      rcases h2 with rfl | ⟨rfl, rfl⟩
      · rw [Oper.upon_value]; exact hk
      · rw [Oper.upon_skip]; exact hk
  have hskip : v = .tup [] → st' = st → K (a.put o.dst undef) w := by
    rintro rfl rfl
    exact hK S σ w _ hI (Evo.refl ..) (Below.refl _ _) (hrel.putD undef_rel o.dst) (put_defers _ _ hd)
  have run : Region.wanted o (yielded ops a.tmps) = true → evOp P Γ call lv o.dst o.type env st o.op = some (v, st') → (if Region.wanted o (yielded ops a.tmps) then o.wp P a w K Q ∨ (o.asks P a w ∧ LetsOut Q) else K (a.put o.dst undef) w) := by
    intro h1 h2
    rw [if_pos h1]; exact .inl (hrun h2)
  have skip : Region.wanted o (yielded ops a.tmps) = false → v = .tup [] → st' = st → (if Region.wanted o (yielded ops a.tmps) then o.wp P a w K Q ∨ (o.asks P a w ∧ LetsOut Q) else K (a.put o.dst undef) w) := by
    intro h1 h2 h3
    rw [if_neg (by rw [h1]; simp)]; exact hskip h2 h3
  unfold stepV at hv
  cases hg : o.guard with
  | none =>
    rw [hg] at hv
    exact run (by unfold Region.wanted; rw [hg]) hv
  | some g =>
    obtain ⟨j, want⟩ := g
    rw [hg] at hv
    simp only at hv
    rw [dstAt_eq] at hv
    cases ht : (ops[j]?).bind (·.dst) with
    | none => rw [ht] at hv; cases hv
    | some t =>
      rw [ht] at hv
      simp only at hv
      have hval := hrel.2 t
      cases hgt : V.get env t with
      | d x =>
        rw [hgt] at hv hval
        cases x with
        | bool q =>
          simp only at hv
          have hb := relV_bool hval
          have hy : yielded ops a.tmps j = some q := by
            unfold yielded
            rw [ht]
            simp only [Option.bind_some, getD_some hb (by simp [undef])]
          have hw : Region.wanted o (yielded ops a.tmps) = (some q == some want) := by unfold Region.wanted; rw [hg]; simp only [hy]
          by_cases hq : q = want
          · rw [if_pos hq] at hv
            exact run (by rw [hw, hq]; simp) hv
          · rw [if_neg hq] at hv
            cases hv
            exact skip (by rw [hw]; simpa using hq) rfl rfl
        | _ => cases hv
      | tup vs =>
        rw [hgt] at hv hval
        cases vs with
        | cons _ _ => cases hv
        | nil =>
          cases hv
          obtain ⟨vals, g1, g2⟩ := hval
          cases g2
          have hy : yielded ops a.tmps j = none := by
            unfold yielded
            rw [ht]
            simp only [Option.bind_some]
            rw [Array.getD_eq_getD_getElem?] at g1
            cases hq : a.tmps[t]? with
            | none => rfl
            | some u => rw [hq] at g1; simp at g1; subst g1; rfl
          have hw : Region.wanted o (yielded ops a.tmps) = false := by unfold Region.wanted; rw [hg]; simp only [hy]; rfl
          exact skip hw rfl rfl
      | _ => rw [hgt] at hv; cases hv

/-- A region in its order. -/
theorem list_sound {Q : Exit → Act → World → Prop} (hΓ : ∀ g s, look Γ g = some s → SpecOk P g s) (hcall : CallerOk P call) : ∀ (l : List Oper) {S : Nat → Prop} {σ : Sig} {st : Store} {w : World} {env : List V} {a : Act} {env' : List V} {st' : Store},
    evOps P Γ call lv ops.toList l env st = some (env', st') → Inv P B0 S σ st w → EnvRel P S σ st w env a.tmps → a.defers = [] → Cont P B0 S σ st w env' st' (Q .normal) → wpList P ops Q l a w
  | [], S, σ, st, w, env, a, env', st', h, hI, hrel, hd, hQ => by
    simp only [evOps, Option.some.injEq, Prod.mk.injEq] at h
    obtain ⟨rfl, rfl⟩ := h
    exact hQ S σ w a hI (Evo.refl ..) (Below.refl _ _) hrel hd
  | o :: r, S, σ, st, w, env, a, env', st', h, hI, hrel, hd, hQ => by
    rw [evOps_cons] at h
    cases hs : stepO P Γ call lv ops o env st with
    | none => rw [hs] at h; cases h
    | some q =>
      obtain ⟨e1, s1⟩ := q
      rw [hs, thenO_s] at h
      unfold wpList
      refine step_sound hΓ hcall hs hI hrel hd ?_
      intro S' σ' w' a' h1 h2 h3 h4 h5
      exact list_sound hΓ hcall r h h1 h4 h5 (hQ.step h2 h3)

/-! ### any order -/
/-- What has not been done yet. -/
def remL (ops : Array Oper) (listed : Array Bool) : List Oper := (ops.toList.zipIdx.filter fun x => !listed.getD x.2 true).map (·.1)
theorem zipIdx_at {l : List Oper} {i : Nat} {o : Oper} (h : l[i]? = some o) : l.zipIdx = (l.take i).zipIdx ++ (o, i) :: (l.drop (i + 1)).zipIdx (i + 1) := by
  have hlt := (List.getElem?_eq_some_iff.1 h).1
  have ho := (List.getElem?_eq_some_iff.1 h).2
  conv => lhs; rw [← List.take_append_drop i l, List.zipIdx_append, List.drop_eq_getElem_cons hlt, ho]
  simp [Nat.min_eq_left (Nat.le_of_lt hlt), List.zipIdx_cons]
theorem getD_set {listed : Array Bool} {i j : Nat} (h : i ≠ j) (d : Bool) : (listed.setIfInBounds i true).getD j d = listed.getD j d := by
  simp [Array.getD_eq_getD_getElem?, Array.getElem?_setIfInBounds_ne h]
theorem rem_split {listed : Array Bool} {i : Nat} {o : Oper} (ho : ops[i]? = some o) (hn : listed.getD i true = false) :
    ∃ pre post, remL ops listed = pre ++ o :: post ∧ remL ops (listed.setIfInBounds i true) = pre ++ post ∧ ∀ x ∈ pre, ∃ j, j < i ∧ ops[j]? = some x ∧ listed.getD j true = false := by
  have ho' : ops.toList[i]? = some o := by rw [Array.getElem?_toList]; exact ho
  have hz := zipIdx_at ho'
  have hA : ∀ x ∈ (ops.toList.take i).zipIdx, x.2 < i ∧ ops[x.2]? = some x.1 := by
    intro x hx
    obtain ⟨y, j⟩ := x
    rw [List.mem_zipIdx_iff_getElem?] at hx
    have hlt := (List.getElem?_eq_some_iff.1 hx).1
    simp at hlt
    rw [List.getElem?_take_of_lt (by omega), Array.getElem?_toList] at hx
    exact ⟨by omega, hx⟩
  have hB : ∀ x ∈ (ops.toList.drop (i + 1)).zipIdx (i + 1), i < x.2 := by
    intro x hx
    obtain ⟨y, j⟩ := x
    have := List.le_snd_of_mem_zipIdx hx
    omega
  refine ⟨(((ops.toList.take i).zipIdx).filter fun x => !listed.getD x.2 true).map (·.1), (((ops.toList.drop (i + 1)).zipIdx (i + 1)).filter fun x => !listed.getD x.2 true).map (·.1), ?_, ?_, ?_⟩
  · unfold remL
    rw [hz, List.filter_append, List.filter_cons]
    simp [hn]
  · unfold remL
    rw [hz, List.filter_append, List.filter_cons]
    have h1 : (!(listed.setIfInBounds i true).getD i true) = false := by
      by_cases hlt : i < listed.size <;> simp [Array.getD_eq_getD_getElem?, hlt]
    rw [h1]
    simp only [Bool.false_eq_true, if_false, List.map_append]
    congr 2
    · apply List.filter_congr
      intro x hx
      rw [getD_set (by have := (hA x hx).1; omega)]
    · apply List.filter_congr
      intro x hx
      rw [getD_set (by have := hB x hx; omega)]
  · intro x hx
    obtain ⟨y, hy, rfl⟩ := List.mem_map.1 hx
    obtain ⟨h1, h2⟩ := List.mem_filter.1 hy
    obtain ⟨h3, h4⟩ := hA y h1
    exact ⟨y.2, h3, h4, by simpa using h2⟩

theorem rem_nil {nc : Bool} {m u : List Bool} {listed : Array Bool} (hsz : listed.size = ops.size) {G : List FuncId} (hok : drawOk nc G m u ops = true) (h : Region.ready .any ops listed = []) : remL ops listed = [] := by
  -- the first that is left would be ready
  apply Classical.byContradiction
  intro hne
  have hex : ∃ i, i < ops.size ∧ listed.getD i true = false := by
    obtain ⟨x, hx⟩ := List.exists_mem_of_ne_nil _ hne
    obtain ⟨y, hy, rfl⟩ := List.mem_map.1 hx
    obtain ⟨h1, h2⟩ := List.mem_filter.1 hy
    obtain ⟨z, j⟩ := y
    rw [List.mem_zipIdx_iff_getElem?] at h1
    have := (List.getElem?_eq_some_iff.1 h1).1
    exact ⟨j, by simpa using this, by simpa using h2⟩
  have least : ∀ n, (∃ i, i ≤ n ∧ i < ops.size ∧ listed.getD i true = false) → ∃ i, i < ops.size ∧ listed.getD i true = false ∧ ∀ j, j < i → listed.getD j true = true := by
    intro n
    induction n with
    | zero => rintro ⟨i, h1, h2, h3⟩; exact ⟨i, h2, h3, fun j hj => by omega⟩
    | succ n ih =>
      rintro ⟨i, h1, h2, h3⟩
      by_cases hlt : ∃ j, j ≤ n ∧ j < ops.size ∧ listed.getD j true = false
      · exact ih hlt
      · refine ⟨i, h2, h3, fun j hj => ?_⟩
        cases hq : listed.getD j true with
        | true => rfl
        | false => exact absurd ⟨j, by omega, by omega, hq⟩ hlt
  obtain ⟨i0, h1, h2⟩ := hex
  obtain ⟨i, hi, hn, hall⟩ := least i0 ⟨i0, Nat.le_refl _, h1, h2⟩
  have ho : ops[i]? = some ops[i] := Array.getElem?_eq_getElem hi
  have hmem : i ∈ Region.ready .any ops listed := by
    rw [mem_ready]
    refine ⟨hn, ops[i], ho, fun e he hb => ?_⟩
    have hz : (ops[i], i) ∈ ops.toList.zipIdx := by rw [List.mem_zipIdx_iff_getElem?, Array.getElem?_toList]; exact ho
    unfold drawOk at hok
    rw [Bool.and_eq_true] at hok
    have hok := hok.2
    rw [List.all_eq_true] at hok
    have := hok _ hz
    simp only [Bool.and_eq_true] at this
    obtain ⟨hedge, _⟩ := this
    rw [List.all_eq_true] at hedge
    have hlt := hedge e (by simpa using he)
    simp only [hb, Bool.not_true, Bool.false_or, decide_eq_true_eq] at hlt
    have := hall e.on hlt
    have hsz' : e.on < listed.size := by omega
    simp only [Array.getD_eq_getD_getElem?, Array.getElem?_eq_getElem hsz', Option.getD_some] at this ⊢
    exact this
  rw [h] at hmem
  cases hmem

/-- All that comes before is done. -/
def Closed (ops : Array Oper) (listed : Array Bool) : Prop := ∀ i o, ops[i]? = some o → listed.getD i false = true → ∀ e ∈ o.after, Region.binds .any e = true → listed.getD e.on false = true
theorem mask_listed {listed : Array Bool} (hcl : Closed ops listed) : ∀ (n i : Nat), i ≤ n → ∀ o j, ops[i]? = some o → (∀ e ∈ o.after, Region.binds .any e = true → listed.getD e.on false = true) →
    ((masksGo ops.toList []).getD i 0).testBit j = true → listed.getD j false = true
  | n, i, hin, o, j, ho, hd, hb => by
    have ho' : ops.toList[i]? = some o := by rw [Array.getElem?_toList]; exact ho
    have hm := (masksGo_spec ops.toList []).2 i o ho'
    simp only [List.length_nil, Nat.zero_add] at hm
    rw [List.getD_eq_getElem?_getD, hm, Option.getD_some] at hb
    obtain ⟨e, he, hbe, hj⟩ := maskOne_spec hb
    have hle := hd e (by simpa using he) hbe
    rcases hj with rfl | hj
    · exact hle
    · rw [List.getD_eq_getElem?_getD] at hj
      by_cases hlt : e.on < i
      · rw [List.getElem?_take_of_lt hlt] at hj
        have hei : e.on < ops.size := by have := (List.getElem?_eq_some_iff.1 ho').1; simp at this; omega
        cases n with
        | zero => omega
        | succ n =>
          exact mask_listed hcl n e.on (by omega) ops[e.on] j (Array.getElem?_eq_getElem hei) (hcl e.on _ (Array.getElem?_eq_getElem hei) hle) (by rw [List.getD_eq_getElem?_getD]; exact hj)
      · rw [List.getElem?_eq_none (by simp; omega)] at hj
        simp at hj

theorem getD_tf {listed : Array Bool} {i : Nat} (h : i < listed.size) (b : Bool) : listed.getD i true = b ↔ listed.getD i false = b := by
  simp [Array.getD_eq_getD_getElem?, Array.getElem?_eq_getElem h]

theorem any_sound {nc : Bool} {m u : List Bool} {env0 : List V} (hap : m = [] ∨ apartAll (sel m env0) = true) (hnc : nc = true → call = noCall) {Q : Exit → Act → World → Prop} (hΓ : ∀ g s, look Γ g = some s → SpecOk P g s) (hcall : CallerOk P call) (hok : drawOk nc (Γ.map (·.1)) m u ops = true) : ∀ (fuel : Nat) (listed : Array Bool) {S : Nat → Prop} {σ : Sig} {st : Store} {w : World} {env : List V} {a : Act} {env' : List V} {st' : Store},
    listed.size = ops.size → Closed ops listed → (m = [] ∨ (rootsOk ops.toList u = true ∧ Good ops.toList env0 env)) → (remL ops listed).length ≤ fuel → evOps P Γ call lv ops.toList (remL ops listed) env st = some (env', st') → Inv P B0 S σ st w → EnvRel P S σ st w env a.tmps → a.defers = [] →
    Cont P B0 S σ st w env' st' (Q .normal) → wpAny P .any ops Q fuel listed a w := by
  intro fuel
  induction fuel with
  | zero =>
    intro listed S σ st w env a env' st' hsz hcl hG hf h hI hrel hd hQ
    have hr : remL ops listed = [] := List.eq_nil_of_length_eq_zero (by omega)
    rw [hr] at h
    simp only [evOps, Option.some.injEq, Prod.mk.injEq] at h
    obtain ⟨rfl, rfl⟩ := h
    refine ⟨?_, hQ S σ w a hI (Evo.refl ..) (Below.refl _ _) hrel hd⟩
    apply Classical.byContradiction
    intro hne
    obtain ⟨i, hi⟩ := List.exists_mem_of_ne_nil _ hne
    obtain ⟨hn, o, ho, _⟩ := mem_ready.1 hi
    obtain ⟨pre, post, h1, _⟩ := rem_split ho (by
      rw [getD_tf (by rw [hsz]; exact (Array.getElem?_eq_some_iff.1 ho).1)] at *
      first | exact hn | simpa using hn)
    rw [hr] at h1
    simp at h1
  | succ fuel ih =>
    intro listed S σ st w env a env' st' hsz hcl hG hf h hI hrel hd hQ
    refine ⟨fun hr => ?_, fun i hi => ?_⟩
    · have hr' := rem_nil hsz hok hr
      rw [hr'] at h
      simp only [evOps, Option.some.injEq, Prod.mk.injEq] at h
      obtain ⟨rfl, rfl⟩ := h
      exact hQ S σ w a hI (Evo.refl ..) (Below.refl _ _) hrel hd
    · obtain ⟨hn, o, ho, hdeps⟩ := mem_ready.1 hi
      have hilt : i < listed.size := by rw [hsz]; exact (Array.getElem?_eq_some_iff.1 ho).1
      obtain ⟨pre, post, h1, h2, h3⟩ := rem_split ho hn
      rw [h1] at h
      obtain ⟨e1, s1, g1, g2⟩ := front hnc (env0 := env0) (m := m) (u := u) pre env st (by
        intro x hx
        obtain ⟨j, hj, hxj, hjn⟩ := h3 x hx
        have hz : (o, i) ∈ ops.toList.zipIdx := by rw [List.mem_zipIdx_iff_getElem?, Array.getElem?_toList]; exact ho
        have hzj : (x, j) ∈ ops.toList.zipIdx := by rw [List.mem_zipIdx_iff_getElem?, Array.getElem?_toList]; exact hxj
        have hk := hok
        unfold drawOk at hk
        rw [Bool.and_eq_true] at hk
        have hk := hk.2
        rw [List.all_eq_true] at hk
        have := hk _ hz
        simp only [Bool.and_eq_true] at this
        have := this.2
        rw [List.all_eq_true] at this
        have := this _ hzj
        simp only [Bool.or_eq_true, Bool.not_eq_true', decide_eq_false_iff_not, Bool.and_eq_true] at this
        refine ⟨Array.mem_toList_iff.2 (Array.mem_of_getElem? hxj), ?_⟩
        rcases this with (this | this) | ⟨this, hcd⟩
        · exact absurd hj this
        · have hl := mask_listed hcl i i (Nat.le_refl _) o j ho hdeps this
          have hjlt : j < listed.size := by omega
          rw [(getD_tf hjlt false).1 hjn] at hl
          cases hl
        · refine ⟨this, hcd.imp id fun hdy => ?_⟩
          rcases hap with rfl | hap
          · exfalso
            unfold dynPair at hdy
            repeat' split at hdy
            all_goals simp at hdy
          · exact ⟨hdy, hap⟩) hG h
      unfold wpOp
      rw [ho]
      refine step_sound hΓ hcall g1 hI hrel hd ?_
      intro S' σ' w' a' q1 q2 q3 q4 q5
      refine ih (listed.setIfInBounds i true) (by simpa using hsz) ?_ (hG.imp id fun ⟨q1, q2⟩ => ⟨q1, q2.step q1 (Array.mem_toList_iff.2 (Array.mem_of_getElem? ho)) g1⟩) ?_ (by rw [h2]; exact g2) q1 q4 q5 (hQ.step q2 q3)
      · intro k ok hk hlk e he hb
        by_cases hki : k = i
        · subst hki
          rw [ho] at hk
          cases hk
          have := hdeps e he hb
          by_cases hei : e.on = k
          · rw [hei]; simp [Array.getD_eq_getD_getElem?, hilt]
          · rw [getD_set (fun e' => hei e'.symm)]; exact this
        · rw [getD_set (fun e' => hki e'.symm)] at hlk
          have := hcl k ok hk hlk e he hb
          by_cases hei : e.on = i
          · rw [hei]; simp [Array.getD_eq_getD_getElem?, hilt]
          · rw [getD_set (fun e' => hei e'.symm)]; exact this
      · rw [h2]
        rw [h1] at hf
        simp at hf ⊢
        omega

theorem rem_all : remL ops (Array.replicate ops.size false) = ops.toList := by
  unfold remL
  have : (ops.toList.zipIdx.filter fun x => !(Array.replicate ops.size false).getD x.2 true) = ops.toList.zipIdx := by
    apply List.filter_eq_self.2
    intro x hx
    obtain ⟨y, j⟩ := x
    rw [List.mem_zipIdx_iff_getElem?] at hx
    have := (List.getElem?_eq_some_iff.1 hx).1
    simp at this
    simp [Array.getD_eq_getD_getElem?, this]
  rw [this]
  simp [List.zipIdx_map_fst]

/-- A region, in whatever order. -/
theorem region_sound {draw : Bool} {nc : Bool} {m u : List Bool} (hap : draw = true → m = [] ∨ (apartAll (sel m env) = true ∧ freeAll (sel u env) = true)) (hnc : nc = true → call = noCall) {id : Nat} {Q : Exit → Act → World → Prop} {env' : List V} {st' : Store} (hm : P.follows .mixedOrders = true) (hΓ : ∀ g s, look Γ g = some s → SpecOk P g s) (hcall : CallerOk P call) (hok : draw = true → drawOk nc (Γ.map (·.1)) m u ops = true)
    (h : evOps P Γ call lv ops.toList ops.toList env st = some (env', st')) (hI : Inv P B0 S σ st w) (hrel : EnvRel P S σ st w env a.tmps) (hd : a.defers = []) (hQ : Cont P B0 S σ st w env' st' (Q .normal)) : (Code.region id ops draw).wp P Q a w := by
  cases draw with
  | false => exact wp_region_list (list_sound hΓ hcall ops.toList h hI hrel hd hQ)
  | true =>
    refine wp_region_any hm ?_
    have hI' : Inv P B0 S σ st w.drew := by
      refine ⟨hI.base, hI.safe, fun k hl => ?_, hI.inj⟩
      obtain ⟨h2, h3⟩ := hI.own k hl
      refine ⟨h2, fun b c hs => ?_⟩
      obtain ⟨g1, g2, g3, o, g4, g5⟩ := h3 b c hs
      exact ⟨g1, g2, g3, o, g4, Holds.mono (⟨Nat.le_refl _, fun _ h => .inl h, fun _ h => h, fun _ _ => rfl, fun _ => Nat.le_refl _, fun _ _ h => ⟨h, rfl, rfl⟩⟩ : Evo S σ st w S σ st w.drew) g5⟩
    have hE : Evo S σ st w S σ st w.drew := ⟨Nat.le_refl _, fun _ h => .inl h, fun _ h => h, fun _ _ => rfl, fun _ => Nat.le_refl _, fun _ _ h => ⟨h, rfl, rfl⟩⟩
    have hG : m = [] ∨ (rootsOk ops.toList u = true ∧ Good ops.toList env env) := by
      rcases hap rfl with h | ⟨_, h⟩
      · exact .inl h
      · have hk := hok rfl
        unfold drawOk at hk
        simp only [Bool.and_eq_true, Bool.or_eq_true] at hk
        rcases hk.1 with hk | hk
        · exact .inl (by simpa using hk)
        · exact .inr ⟨hk, Good.start hk h⟩
    refine any_sound (w := w.drew) (env0 := env) (m := m) (u := u) ((hap rfl).imp (fun h => h) fun h => h.1) hnc hΓ hcall (hok rfl) ops.size _ (by simp) ?_ hG (by rw [rem_all]; simp) (by rw [rem_all]; exact h) hI' (hrel.mono hE) hd (hQ.step hE (below_drew w B0))
    intro i o ho hl
    exfalso
    have hlt := (Array.getElem?_eq_some_iff.1 ho).1
    simp [Array.getD_eq_getD_getElem?, hlt] at hl
end
end Go.Ev
