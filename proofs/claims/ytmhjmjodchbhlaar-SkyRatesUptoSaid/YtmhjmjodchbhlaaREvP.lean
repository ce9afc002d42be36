/- The evaluator's soundness, last part: the code, functions, and the contract of a function that the evaluator runs. -/
import Derived.Test.YtmhjmjodchbhlaaREvO
set_option linter.unusedVariables false
set_option linter.unusedSimpArgs false
set_option linter.unusedSectionVars false
namespace Go.Ev
open Go.RowKit

/-- The regions whose order is open may be run in any order. -/
def codeOk (ms : Masks) (G : List FuncId) : Code → Bool
  | .region id ops draw => !draw || drawOk (ncOf ms id) G (maskOf ms (3000000 + id)) (maskOf ms (4000000 + id)) ops
  | .seq a b | .cond _ a b => codeOk ms G a && codeOk ms G b
  | .block _ a | .loop a => codeOk ms G a
  | _ => true
def exitOf : X → Exit
  | .normal => .normal
  | .exit i => .exit i
  | .ret => .ret

section
variable {P : Program} {B0 : Nat} {Γ : Specs} {call : Caller} {L : Nat} {ms : Masks} {lv : Nat}

theorem mask_rel {S : Nat → Prop} {σ : Sig} {st : Store} {w : World} : ∀ {m : List Bool} {env : List V} (i : Nat), V.get (mask m env) i = V.get env i ∨ V.get (mask m env) i = .und
  | [], env, i => by simp [mask]
  | _ :: _, [], i => by simp [mask, V.get]
  | true :: m, v :: vs, i => by
    cases i with
    | zero => exact .inl rfl
    | succ i => exact mask_rel (S := S) (σ := σ) (st := st) (w := w) i
  | false :: m, v :: vs, i => by
    cases i with
    | zero => exact .inr rfl
    | succ i => exact mask_rel (S := S) (σ := σ) (st := st) (w := w) i
theorem mask_length : ∀ (m : List Bool) (env : List V), (mask m env).length = env.length
  | [], env => by simp [mask]
  | _ :: _, [] => by simp [mask]
  | true :: m, v :: vs => by simp [mask, mask_length m vs]
  | false :: m, v :: vs => by simp [mask, mask_length m vs]
theorem EnvRel.mask {S : Nat → Prop} {σ : Sig} {st : Store} {w : World} {env : List V} {tmps : Array Value} (h : EnvRel P S σ st w env tmps) (m : List Bool) : EnvRel P S σ st w (Ev.mask m env) tmps := by
  refine ⟨by rw [mask_length]; exact h.1, fun i => ?_⟩
  rcases mask_rel (S := S) (σ := σ) (st := st) (w := w) (m := m) (env := env) i with hi | hi
  · rw [hi]; exact h.2 i
  · rw [hi]; exact und_rel _

/-- What a run of code comes to, in the model. -/
def RunOk (P : Program) (B0 : Nat) (f : Run) (arr : (Exit → Act → World → Prop) → Act → World → Prop) : Prop :=
  ∀ (env : List V) (st : Store) (x : X) (env' : List V) (st' : Store), f env st = some (x, env', st') → ∀ (S : Nat → Prop) (σ : Sig) (w : World) (a : Act) (Q : Exit → Act → World → Prop), Inv P B0 S σ st w → EnvRel P S σ st w env a.tmps → a.defers = [] →
    Cont P B0 S σ st w env' st' (Q (exitOf x)) → arr Q a w

theorem seqR_inv {o : Out} {k : Run} {x : X} {env' : List V} {st' : Store} (h : seqR o k = some (x, env', st')) : (∃ e s, o = some (.normal, e, s) ∧ k e s = some (x, env', st')) ∨ (x ≠ .normal ∧ o = some (x, env', st')) := by
  cases o with
  | none => cases h
  | some q =>
    obtain ⟨y, e, s⟩ := q
    cases y with
    | normal => exact .inl ⟨e, s, rfl, h⟩
    | exit i => cases h; exact .inr ⟨by simp, rfl⟩
    | ret => cases h; exact .inr ⟨by simp, rfl⟩

def RoundArr (P : Program) (c : Code) (Q : Exit → Act → World → Prop) (a : Act) (w : World) : Prop :=
  ∀ (b : Frame) (k : List Item) (cs : List Frame), ∃ e a' w', Q e a' w' ∧ Arrives P (lone (b.at a (.code c :: .inLoop c :: k)) cs w) b k cs e a' w'
theorem wp_of_round {c : Code} {Q : Exit → Act → World → Prop} {a : Act} {w : World} (h : RoundArr P c Q a w) : (Code.loop c).wp P Q a w :=
  fun b k cs => let ⟨e, a', w', q, r⟩ := h b k cs; ⟨e, a', w', q, .of_steps (.one step_loop) r⟩
theorem round_of {c : Code} {Q : Exit → Act → World → Prop} {a : Act} {w : World} (h : c.wp P (Exit.then (RoundArr P c Q) Q) a w) : RoundArr P c Q a w := by
  intro b k cs
  obtain ⟨e, a₁, w₁, hq, harr⟩ := h b (.inLoop c :: k) cs
  cases e with
  | normal =>
    obtain ⟨e₂, a₂, w₂, hq₂, harr₂⟩ := hq b k cs
    exact ⟨e₂, a₂, w₂, hq₂, .of_steps (Steps.trans harr (.one step_inLoop)) harr₂⟩
  | exit id => exact ⟨_, a₁, w₁, hq, .pass (x := .inLoop c) rfl (fun _ _ => .inl (by simp)) harr⟩
  | goto l => exact ⟨_, a₁, w₁, hq, .pass (x := .inLoop c) rfl (fun _ _ => .inl (by simp)) harr⟩
  | ret => exact ⟨_, a₁, w₁, hq, .pass (x := .inLoop c) rfl (fun _ _ => .inl (by simp)) harr⟩
  | panic ch => exact ⟨_, a₁, w₁, hq, .pass (x := .inLoop c) rfl (fun _ _ => .inl (by simp)) harr⟩
  | outgrown => exact ⟨_, a₁, w₁, hq, .pass (x := .inLoop c) rfl (fun _ _ => .inl (by simp)) harr⟩

theorem iter_sound {f : Run} {m : List Bool} {c : Code} (hf : RunOk P B0 f fun Q a w => c.wp P Q a w) : ∀ n, RunOk P B0 (iter f m n) fun Q a w => RoundArr P c Q a w
  | 0 => by intro env st x env' st' h; cases h
  | n + 1 => by
    intro env st x env' st' h S σ w a Q hI hrel hd hQ
    simp only [iter] at h
    refine round_of ?_
    rcases seqR_inv h with ⟨e, s, h1, h2⟩ | ⟨hx, h1⟩
    · refine hf _ st .normal e s h1 S σ w a _ hI (hrel.mask m) hd ?_
      intro S' σ' w' a' q1 q2 q3 q4 q5
      exact iter_sound hf n e s x env' st' h2 S' σ' w' a' Q q1 q4 q5 (hQ.step q2 q3)
    · refine hf _ st x env' st' h1 S σ w a _ hI (hrel.mask m) hd ?_
      intro S' σ' w' a' q1 q2 q3 q4 q5
      have := hQ S' σ' w' a' q1 q2 q3 q4 q5
      cases x <;> first | exact absurd rfl hx | exact this

theorem code_sound (hm : P.follows .mixedOrders = true) (hΓ : ∀ g s, look Γ g = some s → SpecOk P g s) (hcall : CallerOk P call) : ∀ (c : Code) (i : Nat), codeOk ms (Γ.map (·.1)) c = true → RunOk P B0 (evC P Γ call L ms lv i c) fun Q a w => c.wp P Q a w
  | .skip, i, _ => by
    intro env st x env' st' h S σ w a Q hI hrel hd hQ
    simp only [evC, Option.some.injEq, Prod.mk.injEq] at h
    obtain ⟨rfl, rfl, rfl⟩ := h
    exact wp_skip (hQ S σ w a hI (Evo.refl ..) (Below.refl _ _) hrel hd)
  | .label l, i, _ => by
    intro env st x env' st' h S σ w a Q hI hrel hd hQ
    simp only [evC, Option.some.injEq, Prod.mk.injEq] at h
    obtain ⟨rfl, rfl, rfl⟩ := h
    exact wp_label (hQ S σ w a hI (Evo.refl ..) (Below.refl _ _) hrel hd)
  | .ret, i, _ => by
    intro env st x env' st' h S σ w a Q hI hrel hd hQ
    simp only [evC, Option.some.injEq, Prod.mk.injEq] at h
    obtain ⟨rfl, rfl, rfl⟩ := h
    exact wp_ret (hQ S σ w a hI (Evo.refl ..) (Below.refl _ _) (hrel.mask _) hd)
  | .exit id, i, _ => by
    intro env st x env' st' h S σ w a Q hI hrel hd hQ
    simp only [evC, Option.some.injEq, Prod.mk.injEq] at h
    obtain ⟨rfl, rfl, rfl⟩ := h
    exact wp_exit (hQ S σ w a hI (Evo.refl ..) (Below.refl _ _) (hrel.mask _) hd)
  | .region id ops draw, i, hok => by
    intro env st x env' st' h S σ w a Q hI hrel hd hQ
    simp only [evC] at h
    have hap : draw = true → maskOf ms (3000000 + id) = [] ∨ (apartAll (sel (maskOf ms (3000000 + id)) env) = true ∧ freeAll (sel (maskOf ms (4000000 + id)) env) = true) := by
      rintro rfl
      simp only [cond_true] at h
      unfold drawR at h
      split at h
      · rename_i hm'; exact .inl hm'
      · split at h
        · rename_i hc; exact .inr hc
        · cases h
    replace h : normR (evOps P Γ (bif draw then callOf ms id call else call) lv ops.toList ops.toList env st) = some (x, env', st') := by
      cases draw with
      | false => exact h
      | true =>
        simp only [cond_true] at h ⊢
        unfold drawR at h
        split at h
        · exact h
        · split at h
          · exact h
          · cases h
    cases hq : evOps P Γ (bif draw then callOf ms id call else call) lv ops.toList ops.toList env st with
    | none => rw [hq] at h; cases h
    | some q =>
      obtain ⟨e, s⟩ := q
      rw [hq] at h
      simp only [normR, Option.some.injEq, Prod.mk.injEq] at h
      obtain ⟨rfl, rfl, rfl⟩ := h
      have hc2 : CallerOk P (bif draw then callOf ms id call else call) := by
        cases draw with
        | false => exact hcall
        | true =>
          show CallerOk P (callOf ms id call)
          unfold callOf
          cases ncOf ms id with
          | false => exact hcall
          | true => intro f xs lv st v st' h; cases h
      refine region_sound (nc := draw && ncOf ms id) hap ?_ hm hΓ hc2 (fun hd => by simp only [codeOk, hd, Bool.not_true, Bool.false_or, Bool.true_and] at hok ⊢; exact hok) hq hI hrel hd hQ
      intro hnc
      simp only [Bool.and_eq_true] at hnc
      obtain ⟨rfl, h2⟩ := hnc
      simp only [cond_true, callOf, h2]
  | .seq c d, i, hok => by
    intro env st x env' st' h S σ w a Q hI hrel hd hQ
    simp only [codeOk, Bool.and_eq_true] at hok
    simp only [evC] at h
    refine wp_seq ?_
    rcases seqR_inv h with ⟨e, s, h1, h2⟩ | ⟨hx, h1⟩
    · refine code_sound hm hΓ hcall c i hok.1 env st .normal e s h1 S σ w a _ hI hrel hd ?_
      intro S' σ' w' a' q1 q2 q3 q4 q5
      exact code_sound hm hΓ hcall d i hok.2 e s x env' st' h2 S' σ' w' a' Q q1 q4 q5 (hQ.step q2 q3)
    · refine code_sound hm hΓ hcall c i hok.1 env st x env' st' h1 S σ w a _ hI hrel hd ?_
      intro S' σ' w' a' q1 q2 q3 q4 q5
      have := hQ S' σ' w' a' q1 q2 q3 q4 q5
      cases x <;> first | exact absurd rfl hx | exact this
  | .cond q c d, i, hok => by
    intro env st x env' st' h S σ w a Q hI hrel hd hQ
    simp only [codeOk, Bool.and_eq_true] at hok
    simp only [evC] at h
    split at h
    · rename_i b hb
      have hv := evalT_rel hrel 0 q
      rw [hb] at hv
      refine wp_cond (relV_bool hv) ?_
      cases b with
      | true =>
        simp only [if_true] at h ⊢
        exact code_sound hm hΓ hcall c i hok.1 env st x env' st' h S σ w a Q hI hrel hd hQ
      | false =>
        simp only [Bool.false_eq_true, if_false] at h ⊢
        exact code_sound hm hΓ hcall d i hok.2 env st x env' st' h S σ w a Q hI hrel hd hQ
    · cases h
  | .block id c, i, hok => by
    intro env st x env' st' h S σ w a Q hI hrel hd hQ
    simp only [codeOk] at hok
    simp only [evC] at h
    refine wp_block ?_
    cases hq : evC P Γ call L ms lv id c env st with
    | none => rw [hq] at h; cases h
    | some r =>
      obtain ⟨y, e, s⟩ := r
      rw [hq] at h
      refine code_sound hm hΓ hcall c id hok env st y e s hq S σ w a _ hI hrel hd ?_
      intro S' σ' w' a' q1 q2 q3 q4 q5
      cases y with
      | normal =>
        simp only [blkR, Option.some.injEq, Prod.mk.injEq] at h
        obtain ⟨rfl, rfl, rfl⟩ := h
        exact hQ S' σ' w' a' q1 q2 q3 q4 q5
      | ret =>
        simp only [blkR, Option.some.injEq, Prod.mk.injEq] at h
        obtain ⟨rfl, rfl, rfl⟩ := h
        exact hQ S' σ' w' a' q1 q2 q3 q4 q5
      | exit j =>
        simp only [blkR] at h
        simp only [exitOf, Exit.inBlock]
        split at h
        · rename_i hj
          simp only [Option.some.injEq, Prod.mk.injEq] at h
          obtain ⟨rfl, rfl, rfl⟩ := h
          rw [if_pos hj]
          exact hQ S' σ' w' a' q1 q2 q3 q4 q5
        · rename_i hj
          simp only [Option.some.injEq, Prod.mk.injEq] at h
          obtain ⟨rfl, rfl, rfl⟩ := h
          rw [if_neg hj]
          exact hQ S' σ' w' a' q1 q2 q3 q4 q5
  | .loop c, i, hok => by
    intro env st x env' st' h S σ w a Q hI hrel hd hQ
    simp only [evC] at h
    exact wp_of_round (iter_sound (code_sound hm hΓ hcall c i (by simpa [codeOk] using hok)) L env st x env' st' h S σ w a Q hI hrel hd hQ)
  | .rangeFunc .., _, _ => by intro env st x env' st' h; simp [evC] at h
  | .scope _, _, _ => by intro env st x env' st' h; simp [evC] at h
  | .goto _, _, _ => by intro env st x env' st' h; simp [evC] at h
  | .refuse _, _, _ => by intro env st x env' st' h; simp [evC] at h

/-! ### functions -/
/-- The table's functions are the program's. -/
def TableOk (P : Program) (G : List FuncId) (T : Table) : Prop :=
  ∀ f en, T f = some en → P.funcs[f]? = some en.fn ∧ (en.fn.name == "runtime.NumGoroutine") = false ∧ ∀ c, en.fn.body = some c → codeOk en.ms G c = true

theorem pad_length : ∀ (xs : List V) (n : Nat), (pad xs n).length = max xs.length n
  | [], 0 => rfl
  | [], n + 1 => by simp [pad, pad_length [] n]
  | x :: xs, 0 => by simp [pad]
  | x :: xs, n + 1 => by simp [pad, pad_length xs n]
theorem pad_get : ∀ (xs : List V) (n i : Nat), V.get (pad xs n) i = V.get xs i
  | [], 0, i => rfl
  | [], n + 1, i => by cases i <;> simp [pad, V.get, pad_get [] n]
  | x :: xs, 0, i => rfl
  | x :: xs, n + 1, i => by cases i <;> simp [pad, V.get, pad_get xs n]
theorem relNs_get {S : Nat → Prop} {σ : Sig} {st : Store} {w : World} : ∀ {xs : List V} {vals : List Value} (i : Nat), RelNs P S σ st w xs vals → RelV P S σ st w (V.get xs i) ((vals[i]?).getD undef)
  | [], _, i, h => by cases h; simp [V.get]; exact und_rel _
  | x :: xs, _, i, h => by
    obtain ⟨u, r, rfl, h2, h3⟩ := h
    cases i with
    | zero => simpa [V.get] using h2.to_v
    | succ i => simpa [V.get] using relNs_get i h3

/-- One result. -/
def resOne (tmps : Array Value) : ResultVar → Sem Value
  | .tmp t => pure (tmps.getD t undef)
  | .cell c t => do loadVar t (← asAddr (tmps.getD c undef))
theorem resV_sound {S : Nat → Prop} {σ : Sig} {st : Store} {w : World} {env : List V} {a : Act} (hI : Inv P B0 S σ st w) (hrel : EnvRel P S σ st w env a.tmps) : ∀ {rs : List ResultVar} {vs : List V}, resV P st env rs = some vs →
    ∃ vals, (rs.mapM (resOne a.tmps)).run P w = .ok vals w ∧ RelNs P S σ st w vs vals
  | [], vs, h => by simp only [resV, Option.some.injEq] at h; subst h; exact ⟨[], rfl, rfl⟩
  | .tmp t :: r, vs, h => by
    simp only [resV] at h
    split at h
    · rename_i us hus
      obtain ⟨vals, h1, h2⟩ := resV_sound hI hrel hus
      have hv := hrel.2 t
      have hc : (∀ ws, V.get env t ≠ .tup ws) ∧ vs = V.get env t :: us := by
        unfold consV at h
        split at h
        · cases h
        · rename_i hn
          cases h
          exact ⟨fun ws hw => hn ws hw, rfl⟩
      obtain ⟨hn, rfl⟩ := hc
      refine ⟨a.tmps.getD t undef :: vals, ?_, ⟨_, _, rfl, hv.n hn, h2⟩⟩
      rw [List.mapM_cons]
      simp only [resOne, Sem.run_bind, Sem.run_pure, Result.andThen_ok, h1]
    · cases h
  | .cell c t :: r, vs, h => by
    simp only [resV] at h
    have hv := hrel.2 c
    split at h
    · rename_i k ver i path hp
      rw [hp] at hv
      split at h
      · split at h
        · rename_i hc
          obtain ⟨rfl, hl⟩ := hc
          split at h
          · rename_i v us hnth hus
            split at h
            · rename_i ht
              cases h
              obtain ⟨vals, h1, h2⟩ := resV_sound hI hrel hus
              obtain ⟨A, hA, _, hfr⟩ := relV_p hv
              rw [nth_eq] at hnth
              have hgp : getPath v [] = some v := by cases v <;> rfl
              obtain ⟨val, g1, g2⟩ := load_ok hI hl hnth hgp ht (hfr rfl hl)
              refine ⟨val :: vals, ?_, ⟨val, vals, rfl, g2.n (hasT_tup ht), h2⟩⟩
              rw [List.mapM_cons]
              have h0 : (resOne a.tmps (.cell c t)).run P w = .ok val w := by
                simp only [resOne, Sem.run_bind, hA, asAddr, Sem.run_pure, Result.andThen_ok, g1]
              simp only [Sem.run_bind, h0, Result.andThen_ok, h1, Sem.run_pure]
            · cases h
          · cases h
        · cases h
      · cases h
    · cases h

theorem results_sound {S : Nat → Prop} {σ : Sig} {st : Store} {w : World} {env : List V} {a : Act} {fn : Func} {vs : List V} (hI : Inv P B0 S σ st w) (hrel : EnvRel P S σ st w env a.tmps) (h : resV P st env fn.results.toList = some vs) :
    ∃ val, (results fn a.tmps).run P w = .ok val w ∧ RelV P S σ st w (retV vs) val := by
  obtain ⟨vals, h1, h2⟩ := resV_sound hI hrel h
  have hl := relNs_length h2
  have hres : results fn a.tmps = (fn.results.mapM (resOne a.tmps) >>= fun vs => pure (if h : vs.size = 1 then vs[0] else .tuple vs)) := rfl
  have hrun := run_mapM_arr _ fn.results vals w h1
  rw [hres]
  simp only [Sem.run_bind, hrun, Result.andThen_ok]
  rcases ret_cases vs with ⟨v, rfl, hr⟩ | hr
  · obtain ⟨u, r, rfl, g2, g3⟩ := h2
    cases g3
    rw [hr]
    exact ⟨u, by simp, g2.to_v⟩
  · rw [hr]
    have hne : vals.toArray.size ≠ 1 := by
      intro he
      have : vs.length = 1 := by simpa [← hl] using he
      cases vs with
      | nil => simp at this
      | cons v r => cases r with
        | nil =>
          cases hv : v <;> rw [hv] at hr <;> first
            | (simp [retV] at hr; done)
            | skip
          all_goals
            obtain ⟨u, q, rfl, g2, g3⟩ := h2
            rw [hv] at g2
            rcases g2 with g2 | ⟨g2, _⟩ | ⟨_, g2⟩
            · cases g2
            · cases g2
            · exact g2.elim
        | cons u r => simp at this
    refine ⟨.tuple vals.toArray, ?_, vals, rfl, h2⟩
    simp only [dif_neg hne, Sem.run_pure]

theorem evF_sound {T : Table} (hm : P.follows .mixedOrders = true) (hΓ : ∀ g s, look Γ g = some s → SpecOk P g s) (hT : TableOk P (Γ.map (·.1)) T) : ∀ c, CallerOk P (evF P Γ T L c)
  | 0 => by intro f xs lv st v st' h; cases h
  | c + 1 => by
    intro f xs lv st v st' h B0 S σ w vals hI hx
    simp only [evF] at h
    split at h
    · rename_i en hen
      split at h
      · rename_i code hcode
        obtain ⟨t1, t2, t3⟩ := hT f en hen
        refine .inl ⟨en.fn, t1, t2, by rw [hcode]; rfl, ?_⟩
        refine calls_of_wp t1 hcode ?_
        cases hr : evC P Γ (evF P Γ T L c) L en.ms lv 0 code (pad xs en.fn.ntmps) st with
        | none => rw [hr] at h; cases h
        | some q =>
          obtain ⟨x, env', s⟩ := q
          rw [hr] at h
          have hout : x ≠ .normal → x = .ret ∨ ∃ i, x = .exit i := by cases x <;> simp
          have hres : (x = .ret ∨ x = .normal) ∧ ∃ vs, resV P s env' en.fn.results.toList = some vs ∧ v = retV vs ∧ st' = s := by
            cases x with
            | exit i => cases h
            | normal =>
              simp only [outR] at h
              cases hq : resV P s env' en.fn.results.toList with
              | none => rw [hq] at h; cases h
              | some vs => rw [hq] at h; cases h; exact ⟨.inr rfl, vs, rfl, rfl, rfl⟩
            | ret =>
              simp only [outR] at h
              cases hq : resV P s env' en.fn.results.toList with
              | none => rw [hq] at h; cases h
              | some vs => rw [hq] at h; cases h; exact ⟨.inl rfl, vs, rfl, rfl, rfl⟩
          obtain ⟨hx', vs, hvs, rfl, rfl⟩ := hres
          refine code_sound hm hΓ (evF_sound hm hΓ hT c) code 0 (t3 code hcode) _ st x env' st' hr S σ w _ _ hI ?_ rfl ?_
          · have hlen := relNs_length hx
            refine ⟨by rw [pad_length]; simp [hlen] <;> omega, fun i => ?_⟩
            rw [pad_get]
            have := relNs_get i hx
            by_cases hi : i < vals.length
            · have e : (vals.toArray ++ Array.replicate (en.fn.ntmps - vals.toArray.size) undef).getD i undef = (vals[i]?).getD undef := by
                simp [Array.getD_eq_getD_getElem?, Array.getElem?_append, hi]
              rw [e]; exact this
            · have : V.get xs i = .und := by rw [get_eq]; simp [List.getD, List.getElem?_eq_none (show xs.length ≤ i by omega)]
              rw [this]; exact und_rel _
          · intro S' σ' w' a' q1 q2 q3 q4 q5
            obtain ⟨val, r1, r2⟩ := results_sound q1 q4 hvs
            rcases hx' with rfl | rfl <;> exact ⟨q5, val, r1, val, rfl, S', σ', q1, q2, q3, r2⟩
      · cases h
    · cases h

/-! ### results as data -/
theorem mapO_rels {S S' : Nat → Prop} {σ : Sig} {st : Store} {w : World} {f : V → Option D} (hf : ∀ v x cs, f v = some x → RelC P S σ st w v cs → Fl P S' w x cs) : ∀ {vs : List V} {ds : List D} {css : List (List Value)}, mapO f vs = some ds → RelC.rels P S σ st w vs css → Fl.fls P S' w ds css
  | [], ds, css, h, hr => by simp [mapO] at h; subst h; exact hr
  | v :: vs, ds, css, h, hr => by
    simp only [mapO] at h
    split at h
    · rename_i x xs h1 h2
      cases h
      obtain ⟨c, r, rfl, g2, g3⟩ := hr
      exact ⟨c, r, rfl, hf v x c h1 g2, mapO_rels hf h2 g3⟩
    · cases h
/-- Where results may lie: what was safe, and what is new. -/
theorem fin_rel {S S' : Nat → Prop} {σ : Sig} {st : Store} {w : World} (hI : Inv P B0 S σ st w) (hS : ∀ b, S b → S' b) (hN : ∀ b, B0 ≤ b → b < w.heap.size → S' b) : ∀ (n : Nat) (v : V) (x : D) (cs : List Value), V.fin st n v = some x → RelC P S σ st w v cs → Fl P S' w x cs
  | 0, v, x, cs, h, _ => by simp [V.fin] at h
  | n + 1, v, x, cs, h, hr => by
    cases v with
    | d y => simp [V.fin] at h; subst h; exact Fl.mono hS (fun _ _ => rfl) _ _ hr
    | agg t vs =>
      simp only [V.fin, Option.map_eq_some_iff] at h
      obtain ⟨ds, h1, rfl⟩ := h
      obtain ⟨css, g1, g2, g3⟩ := hr
      exact ⟨css, g1, g2, mapO_rels (fin_rel hI hS hN n) h1 g3⟩
    | nils e =>
      simp [V.fin] at h; subst h
      obtain ⟨A, rfl⟩ := hr
      exact ⟨A, 0, rfl, .inl rfl⟩
    | rs er k ver off len full =>
      simp only [V.fin] at h
      split at h
      · rename_i e vs he
        simp only [Option.map_eq_some_iff] at h
        obtain ⟨ds, h1, rfl⟩ := h
        obtain ⟨A, c, rfl, hc⟩ := hr
        have hx : RelV P S σ st w (.rs er k ver off len full) (.slice A len c) := RelC.to_v ⟨A, c, rfl, hc⟩ rfl
        obtain ⟨A', c', css, q1, q2, q3, q4⟩ := elems_ok he hI hx
        have hl := rels_length q2
        simp only [Value.slice.injEq] at q1
        obtain ⟨rfl, hlen, rfl⟩ := q1
        have hf := mapO_rels (fin_rel hI hS hN n) h1 q2
        have hdl := fls_length hf
        refine ⟨A, c, by rw [hlen, ← hl, hdl], ?_⟩
        by_cases hd : ds = []
        · exact .inl hd
        · right
          have hdpos : 0 < ds.length := List.length_pos_iff.2 hd
          rcases q4 with q4 | ⟨a, rfl, hcell⟩
          · rw [q4] at hl; simp at hl; subst hl; simp at hdl; omega
          · have hlc := hc.1
            obtain ⟨hv1, hv2, hle⟩ : (st k).ver = ver ∧ (st k).live = true ∧ off + len ≤ (st k).vs.length := by
              simp only [elemsOf] at he
              split at he
              · assumption
              · cases he
            obtain ⟨g0, gp, g1, g2⟩ := hc.2.2.2 hv1.symm hv2
            obtain ⟨hn, hsm⟩ := (hI.own k hv2).row (by rw [g0]; exact gp)
            cases hσ : σ k with
            | none => have := (g1 hσ).2; omega
            | some bc =>
              obtain ⟨b, cap⟩ := bc
              obtain ⟨p1, p2, p3⟩ := g2 b cap hσ
              obtain ⟨f1, f2, f3, cur, cssk, f4, f5, f6, f7, f8, f9, f10⟩ := hsm b cap hσ
              rcases p1 with p1 | p1
              · omega
              · cases p1
                refine ⟨b, off * szOf P (st k).e, css, rfl, hN b f1 f2, by omega, q3, ?_, hf⟩
                refine ⟨cur, (st k).e, (0, 0), f4, fun j hj => ?_⟩
                have := hcell j _ (List.getElem?_eq_getElem hj)
                rw [add_none, cell_of_row w b _ cur _ _ f4] at this
                rw [this, List.getElem?_eq_getElem hj]
      · cases h
    | _ => simp [V.fin] at h
theorem fin_agg {st : Store} {n : Nat} {v : V} {x : D} (h : V.fin st n v = some x) : (V.d x).isAgg = v.isAgg := by
  cases n with
  | zero => simp [V.fin] at h
  | succ n =>
    cases v with
    | d y => simp [V.fin] at h; subst h; rfl
    | agg t vs =>
      simp only [V.fin, Option.map_eq_some_iff] at h
      obtain ⟨ds, h1, rfl⟩ := h
      rfl
    | nils e => simp [V.fin] at h; subst h; rfl
    | rs er k ver off len full =>
      simp only [V.fin] at h
      split at h
      · simp only [Option.map_eq_some_iff] at h
        obtain ⟨ds, h1, rfl⟩ := h
        rfl
      · cases h
    | _ => simp [V.fin] at h
theorem fin_relN {S S' : Nat → Prop} {σ σ' : Sig} {st st' : Store} {w : World} (hI : Inv P B0 S σ st w) (hS : ∀ b, S b → S' b) (hN : ∀ b, B0 ≤ b → b < w.heap.size → S' b) {n : Nat} {v : V} {x : D} {val : Value} (h : V.fin st n v = some x) (hr : RelN P S σ st w v val) : RelN P S' σ' st' w (.d x) val := by
  have ha := fin_agg h
  rcases hr with hr | ⟨h1, cs, rfl, h3⟩ | ⟨h1, h2⟩
  · subst hr; cases n <;> simp [V.fin] at h
  · exact .inr (.inl ⟨by rw [ha, h1], cs, rfl, fin_rel hI hS hN n v x cs h h3⟩)
  · exact .inr (.inr ⟨by rw [ha, h1], fin_rel hI hS hN n v x _ h h2⟩)
theorem fin_relNs {S S' : Nat → Prop} {σ σ' : Sig} {st st' : Store} {w : World} (hI : Inv P B0 S σ st w) (hS : ∀ b, S b → S' b) (hN : ∀ b, B0 ≤ b → b < w.heap.size → S' b) {n : Nat} : ∀ {vs : List V} {xs : List D} {vals : List Value}, mapO (V.fin st n) vs = some xs → RelNs P S σ st w vs vals → RelNs P S' σ' st' w (xs.map V.d) vals
  | [], xs, vals, h, hr => by simp [mapO] at h; subst h; exact hr
  | v :: vs, xs, vals, h, hr => by
    simp only [mapO] at h
    split at h
    · rename_i x r h1 h2
      cases h
      obtain ⟨u, q, rfl, g2, g3⟩ := hr
      exact ⟨u, q, rfl, fin_relN hI hS hN h1 g2, fin_relNs hI hS hN h2 g3⟩
    · cases h

theorem inv_empty {S : Nat → Prop} {w : World} (hS : ∀ b, S b → b < w.heap.size) : Inv P w.heap.size S (fun _ => none) empty w :=
  ⟨Nat.le_refl _, hS, fun k hl => by simp [empty] at hl, fun k k' hl => by simp [empty] at hl⟩

/-- The contract of a function that the evaluator runs. -/
theorem call_of_ev {T : Table} {f : FuncId} (hm : P.follows .mixedOrders = true) (hΓ : ∀ g s, look Γ g = some s → SpecOk P g s) (hT : TableOk P (Γ.map (·.1)) T) {L c : Nat} {xs rs : List D} (htop : evTop P Γ T L c f xs = some rs)
    {S : Nat → Prop} {w : World} {vals : List Value} (hS : ∀ b, S b → b < w.heap.size) (hargs : ArgsOk P S w xs vals) : CallIn P f vals.toArray w fun val w' => Below w.heap.size w w' ∧ ResOk P (Plus S w w') w' rs val := by
  unfold evTop at htop
  cases hq : evF P Γ T L c f (xs.map V.d) 0 empty with
  | none => rw [hq] at htop; cases htop
  | some q =>
    obtain ⟨v, st'⟩ := q
    rw [hq] at htop
    refine (evF_sound hm hΓ hT c f (xs.map V.d) 0 empty v st' hq w.heap.size S (fun _ => none) w vals (inv_empty hS) (hargs _ _)).mono ?_
    rintro val w' ⟨S', σ', h1, h2, h3, h4⟩
    refine ⟨h3, fun σ0 st0 => ?_⟩
    -- results lie in what was safe, or in what is new
    have hS1 : ∀ b, S' b → Plus S w w' b := fun b hb => (h2.less b hb).imp id (fun q => ⟨q, h1.safe b hb⟩)
    have hN1 : ∀ b, w.heap.size ≤ b → b < w'.heap.size → Plus S w w' b := fun b q1 q2 => .inr ⟨q1, q2⟩
    by_cases hv : ∃ vs, v = .tup vs
    · obtain ⟨vs, rfl⟩ := hv
      obtain ⟨vals', g1, g2⟩ := h4
      have hm1 : mapO (V.fin st' 9) vs = some rs ∧ vs.length ≠ 1 := by
        cases vs with
        | nil => exact ⟨htop, by simp⟩
        | cons x r => cases r with
          | nil => cases htop
          | cons y r => exact ⟨htop, by simp⟩
      have g3 := fin_relNs (σ' := σ0) (st' := st0) h1 hS1 hN1 hm1.1 g2
      have hl1 := relNs_length g3
      have hl2 := relNs_length g2
      have hr : retV (rs.map V.d) = .tup (rs.map V.d) := by
        cases hq : rs.map V.d with
        | nil => rfl
        | cons x r => cases r with
          | nil => rw [hq] at hl1; simp at hl1; omega
          | cons y r => rfl
      rw [hr]
      exact ⟨vals', g1, g3⟩
    · have hn : ∀ vs, v ≠ .tup vs := fun vs e => hv ⟨vs, e⟩
      have htop' : oneL (V.fin st' 9 v) = some rs := by
        cases v <;> first | exact htop | exact absurd rfl (hn _)
      cases hq2 : V.fin st' 9 v with
      | none => rw [hq2] at htop'; cases htop'
      | some x =>
        rw [hq2] at htop'
        cases htop'
        exact RelN.to_v (fin_relN h1 hS1 hN1 hq2 (h4.n hn))
theorem spec_of_ev {T : Table} {f : FuncId} {s : Spec} (hm : P.follows .mixedOrders = true) (hΓ : ∀ g s, look Γ g = some s → SpecOk P g s) (hT : TableOk P (Γ.map (·.1)) T)
    (h : ∀ xs rs, s.run xs = some rs → ∃ L c, evTop P Γ T L c f xs = some rs) : SpecOk P f s := by
  intro xs rs S w vals hrun hS hargs
  obtain ⟨L, c, htop⟩ := h xs rs hrun
  exact call_of_ev hm hΓ hT htop hS hargs

/-- A contract out of typed values: what stands for them, what is asked of them, what comes of them. -/
noncomputable def mkSpec {α : Type} (enc : α → List D) (pre : α → Prop) (out : α → List D) : Spec :=
  ⟨fun xs => open Classical in if h : ∃ x, xs = enc x ∧ pre x then some (out (Classical.choose h)) else none⟩
theorem mkSpec_run {α : Type} {enc : α → List D} {pre : α → Prop} {out : α → List D} (hinj : ∀ x y, enc x = enc y → x = y) (x : α) (hp : pre x) : (mkSpec enc pre out).run (enc x) = some (out x) := by
  have h : ∃ y, enc x = enc y ∧ pre y := ⟨x, rfl, hp⟩
  unfold mkSpec
  simp only
  rw [dif_pos h, hinj _ _ (Classical.choose_spec h).1.symm]
theorem mkSpec_inv {α : Type} {enc : α → List D} {pre : α → Prop} {out : α → List D} {xs rs : List D} (h : (mkSpec enc pre out).run xs = some rs) : ∃ x, xs = enc x ∧ pre x ∧ rs = out x := by
  unfold mkSpec at h
  simp only at h
  split at h
  · rename_i hx
    cases h
    exact ⟨_, (Classical.choose_spec hx).1, (Classical.choose_spec hx).2, rfl⟩
  · cases h
/-- The contract of a function, from its run on typed values. -/
theorem spec_of {T : Table} {f : FuncId} {α : Type} {enc : α → List D} {pre : α → Prop} {out : α → List D} (hm : P.follows .mixedOrders = true) (hΓ : ∀ g s, look Γ g = some s → SpecOk P g s) (hT : TableOk P (Γ.map (·.1)) T)
    (h : ∀ x, pre x → ∃ L c, evTop P Γ T L c f (enc x) = some (out x)) : SpecOk P f (mkSpec enc pre out) :=
  spec_of_ev hm hΓ hT fun xs rs hr => by
    obtain ⟨x, rfl, hp, rfl⟩ := mkSpec_inv hr
    exact h x hp
theorem specs_nil : ∀ g s, look [] g = some s → SpecOk P g s := fun g s h => by cases h
theorem specs_cons {f : FuncId} {s : Spec} {Γ : Specs} (h : SpecOk P f s) (hr : ∀ g s, look Γ g = some s → SpecOk P g s) : ∀ g s', look ((f, s) :: Γ) g = some s' → SpecOk P g s' := by
  intro g s' hl
  simp only [look] at hl
  split at hl
  · rename_i hg; subst hg; cases hl; exact h
  · exact hr g s' hl

theorem table_nil {G : List FuncId} : TableOk P G (tableOf []) := fun f en h => by cases h
theorem table_cons {G : List FuncId} {f : FuncId} {e : Entry} {l : List (FuncId × Entry)} (h1 : P.funcs[f]? = some e.fn) (h2 : (e.fn.name == "runtime.NumGoroutine") = false) (h3 : (match e.fn.body with | some c => codeOk e.ms G c | none => true) = true) (hr : TableOk P G (tableOf l)) : TableOk P G (tableOf ((f, e) :: l)) := by
  intro g en hl
  simp only [tableOf] at hl
  split at hl
  · rename_i hg; subst hg; cases hl
    exact ⟨h1, h2, fun c hc => by rw [hc] at h3; exact h3⟩
  · exact hr g en hl
end
end Go.Ev
