/- Parts of one proof, joined: EvP, EvQ, EvV, EvS, EvT. -/
import Derived.Test.YtmhjmjodchbhlaaRMSkyChecks4
import Derived.ChangeArms
import Derived.ChangeSame
import Derived.ChangeOld
import Derived.WideShapes
import Derived.SizedLaws
import Derived.DataElems
import Derived.DataReads
import Derived.Carry
import Derived.Test.YtmhjmjodchbhlaaRRows
import Derived.JoinedCond
section
set_option linter.unusedVariables false
set_option linter.unusedSimpArgs false
set_option linter.unusedSectionVars false
namespace Go.Ev
open Go.RowKit

/-- The regions whose order is open may be run in any order. -/
def codeOk (ms : Masks) (G : List FuncId) : Code → Bool
  | .region id ops draw => !draw || drawOk (ncOf ms id) G (maskOf ms (3000000 + id)) (maskOf ms (4000000 + id)) ops
  | .seq a b | .cond _ a b => codeOk ms G a && codeOk ms G b
  | .block _ a | .loop a => codeOk ms G a
  | _ => true
def exitOf : X → Exit
  | .normal => .normal
  | .exit i => .exit i
  | .ret => .ret

section
variable {P : Program} {B0 : Nat} {Γ : Specs} {call : Caller} {L : Nat} {ms : Masks} {lv : Nat}

theorem mask_rel {S : Nat → Prop} {σ : Sig} {st : Store} {w : World} : ∀ {m : List Bool} {env : List V} (i : Nat), V.get (mask m env) i = V.get env i ∨ V.get (mask m env) i = .und
  | [], env, i => by simp [mask]
  | _ :: _, [], i => by simp [mask, V.get]
  | true :: m, v :: vs, i => by
    cases i with
    | zero => exact .inl rfl
    | succ i => exact mask_rel (S := S) (σ := σ) (st := st) (w := w) i
  | false :: m, v :: vs, i => by
    cases i with
    | zero => exact .inr rfl
    | succ i => exact mask_rel (S := S) (σ := σ) (st := st) (w := w) i
theorem mask_length : ∀ (m : List Bool) (env : List V), (mask m env).length = env.length
  | [], env => by simp [mask]
  | _ :: _, [] => by simp [mask]
  | true :: m, v :: vs => by simp [mask, mask_length m vs]
  | false :: m, v :: vs => by simp [mask, mask_length m vs]
theorem EnvRel.mask {S : Nat → Prop} {σ : Sig} {st : Store} {w : World} {env : List V} {tmps : Array Value} (h : EnvRel P S σ st w env tmps) (m : List Bool) : EnvRel P S σ st w (Ev.mask m env) tmps := by
  refine ⟨by rw [mask_length]; exact h.1, fun i => ?_⟩
  rcases mask_rel (S := S) (σ := σ) (st := st) (w := w) (m := m) (env := env) i with hi | hi
  · rw [hi]; exact h.2 i
  · rw [hi]; exact und_rel _

/-- What a run of code comes to, in the model. -/
def RunOk (P : Program) (B0 : Nat) (f : Run) (arr : (Exit → Act → World → Prop) → Act → World → Prop) : Prop :=
  ∀ (env : List V) (st : Store) (x : X) (env' : List V) (st' : Store), f env st = some (x, env', st') → ∀ (S : Nat → Prop) (σ : Sig) (w : World) (a : Act) (Q : Exit → Act → World → Prop), Inv P B0 S σ st w → EnvRel P S σ st w env a.tmps → a.defers = [] →
    Cont P B0 S σ st w env' st' (Q (exitOf x)) → arr Q a w

theorem seqR_inv {o : Out} {k : Run} {x : X} {env' : List V} {st' : Store} (h : seqR o k = some (x, env', st')) : (∃ e s, o = some (.normal, e, s) ∧ k e s = some (x, env', st')) ∨ (x ≠ .normal ∧ o = some (x, env', st')) := by
  cases o with
  | none => cases h
  | some q =>
    obtain ⟨y, e, s⟩ := q
    cases y with
    | normal => exact .inl ⟨e, s, rfl, h⟩
    | exit i => cases h; exact .inr ⟨by simp, rfl⟩
    | ret => cases h; exact .inr ⟨by simp, rfl⟩

def RoundArr (P : Program) (c : Code) (Q : Exit → Act → World → Prop) (a : Act) (w : World) : Prop :=
  ∀ (b : Frame) (k : List Item) (cs : List Frame), ∃ e a' w', Q e a' w' ∧ Arrives P (lone (b.at a (.code c :: .inLoop c :: k)) cs w) b k cs e a' w'
theorem wp_of_round {c : Code} {Q : Exit → Act → World → Prop} {a : Act} {w : World} (h : RoundArr P c Q a w) : (Code.loop c).wp P Q a w :=
  fun b k cs => let ⟨e, a', w', q, r⟩ := h b k cs; ⟨e, a', w', q, .of_steps (.one step_loop) r⟩
theorem round_of {c : Code} {Q : Exit → Act → World → Prop} {a : Act} {w : World} (h : c.wp P (Exit.then (RoundArr P c Q) Q) a w) : RoundArr P c Q a w := by
  intro b k cs
  obtain ⟨e, a₁, w₁, hq, harr⟩ := h b (.inLoop c :: k) cs
  cases e with
  | normal =>
    obtain ⟨e₂, a₂, w₂, hq₂, harr₂⟩ := hq b k cs
    exact ⟨e₂, a₂, w₂, hq₂, .of_steps (Steps.trans harr (.one step_inLoop)) harr₂⟩
  | exit id => exact ⟨_, a₁, w₁, hq, .pass (x := .inLoop c) rfl (fun _ _ => .inl (by simp)) harr⟩
  | goto l => exact ⟨_, a₁, w₁, hq, .pass (x := .inLoop c) rfl (fun _ _ => .inl (by simp)) harr⟩
  | ret => exact ⟨_, a₁, w₁, hq, .pass (x := .inLoop c) rfl (fun _ _ => .inl (by simp)) harr⟩
  | panic ch => exact ⟨_, a₁, w₁, hq, .pass (x := .inLoop c) rfl (fun _ _ => .inl (by simp)) harr⟩
  | outgrown => exact ⟨_, a₁, w₁, hq, .pass (x := .inLoop c) rfl (fun _ _ => .inl (by simp)) harr⟩

theorem iter_sound {f : Run} {m : List Bool} {c : Code} (hf : RunOk P B0 f fun Q a w => c.wp P Q a w) : ∀ n, RunOk P B0 (iter f m n) fun Q a w => RoundArr P c Q a w
  | 0 => by intro env st x env' st' h; cases h
  | n + 1 => by
    intro env st x env' st' h S σ w a Q hI hrel hd hQ
    simp only [iter] at h
    refine round_of ?_
    rcases seqR_inv h with ⟨e, s, h1, h2⟩ | ⟨hx, h1⟩
    · refine hf _ st .normal e s h1 S σ w a _ hI (hrel.mask m) hd ?_
      intro S' σ' w' a' q1 q2 q3 q4 q5
      exact iter_sound hf n e s x env' st' h2 S' σ' w' a' Q q1 q4 q5 (hQ.step q2 q3)
    · refine hf _ st x env' st' h1 S σ w a _ hI (hrel.mask m) hd ?_
      intro S' σ' w' a' q1 q2 q3 q4 q5
      have := hQ S' σ' w' a' q1 q2 q3 q4 q5
      cases x <;> first | exact absurd rfl hx | exact this

theorem code_sound (hm : P.follows .mixedOrders = true) (hΓ : ∀ g s, look Γ g = some s → SpecOk P g s) (hcall : CallerOk P call) : ∀ (c : Code) (i : Nat), codeOk ms (Γ.map (·.1)) c = true → RunOk P B0 (evC P Γ call L ms lv i c) fun Q a w => c.wp P Q a w
  | .skip, i, _ => by
    intro env st x env' st' h S σ w a Q hI hrel hd hQ
    simp only [evC, Option.some.injEq, Prod.mk.injEq] at h
    obtain ⟨rfl, rfl, rfl⟩ := h
    exact wp_skip (hQ S σ w a hI (Evo.refl ..) (Below.refl _ _) hrel hd)
  | .label l, i, _ => by
    intro env st x env' st' h S σ w a Q hI hrel hd hQ
    simp only [evC, Option.some.injEq, Prod.mk.injEq] at h
    obtain ⟨rfl, rfl, rfl⟩ := h
    exact wp_label (hQ S σ w a hI (Evo.refl ..) (Below.refl _ _) hrel hd)
  | .ret, i, _ => by
    intro env st x env' st' h S σ w a Q hI hrel hd hQ
    simp only [evC, Option.some.injEq, Prod.mk.injEq] at h
    obtain ⟨rfl, rfl, rfl⟩ := h
    exact wp_ret (hQ S σ w a hI (Evo.refl ..) (Below.refl _ _) (hrel.mask _) hd)
  | .exit id, i, _ => by
    intro env st x env' st' h S σ w a Q hI hrel hd hQ
    simp only [evC, Option.some.injEq, Prod.mk.injEq] at h
    obtain ⟨rfl, rfl, rfl⟩ := h
    exact wp_exit (hQ S σ w a hI (Evo.refl ..) (Below.refl _ _) (hrel.mask _) hd)
  | .region id ops draw, i, hok => by
    intro env st x env' st' h S σ w a Q hI hrel hd hQ
    simp only [evC] at h
    have hap : draw = true → maskOf ms (3000000 + id) = [] ∨ (apartAll (sel (maskOf ms (3000000 + id)) env) = true ∧ freeAll (sel (maskOf ms (4000000 + id)) env) = true) := by
      rintro rfl
      simp only [cond_true] at h
      unfold drawR at h
      split at h
      · rename_i hm'; exact .inl hm'
      · split at h
        · rename_i hc; exact .inr hc
        · cases h
    replace h : normR (evOps P Γ (bif draw then callOf ms id call else call) lv ops.toList ops.toList env st) = some (x, env', st') := by
      cases draw with
      | false => exact h
      | true =>
        simp only [cond_true] at h ⊢
        unfold drawR at h
        split at h
        · exact h
        · split at h
          · exact h
          · cases h
    cases hq : evOps P Γ (bif draw then callOf ms id call else call) lv ops.toList ops.toList env st with
    | none => rw [hq] at h; cases h
    | some q =>
      obtain ⟨e, s⟩ := q
      rw [hq] at h
      simp only [normR, Option.some.injEq, Prod.mk.injEq] at h
      obtain ⟨rfl, rfl, rfl⟩ := h
      have hc2 : CallerOk P (bif draw then callOf ms id call else call) := by
        cases draw with
        | false => exact hcall
        | true =>
          show CallerOk P (callOf ms id call)
          unfold callOf
          cases ncOf ms id with
          | false => exact hcall
          | true => intro f xs lv st v st' h; cases h
      refine region_sound (nc := draw && ncOf ms id) hap ?_ hm hΓ hc2 (fun hd => by simp only [codeOk, hd, Bool.not_true, Bool.false_or, Bool.true_and] at hok ⊢; exact hok) hq hI hrel hd hQ
      intro hnc
      simp only [Bool.and_eq_true] at hnc
      obtain ⟨rfl, h2⟩ := hnc
      simp only [cond_true, callOf, h2]
  | .seq c d, i, hok => by
    intro env st x env' st' h S σ w a Q hI hrel hd hQ
    simp only [codeOk, Bool.and_eq_true] at hok
    simp only [evC] at h
    refine wp_seq ?_
    rcases seqR_inv h with ⟨e, s, h1, h2⟩ | ⟨hx, h1⟩
    · refine code_sound hm hΓ hcall c i hok.1 env st .normal e s h1 S σ w a _ hI hrel hd ?_
      intro S' σ' w' a' q1 q2 q3 q4 q5
      exact code_sound hm hΓ hcall d i hok.2 e s x env' st' h2 S' σ' w' a' Q q1 q4 q5 (hQ.step q2 q3)
    · refine code_sound hm hΓ hcall c i hok.1 env st x env' st' h1 S σ w a _ hI hrel hd ?_
      intro S' σ' w' a' q1 q2 q3 q4 q5
      have := hQ S' σ' w' a' q1 q2 q3 q4 q5
      cases x <;> first | exact absurd rfl hx | exact this
  | .cond q c d, i, hok => by
    intro env st x env' st' h S σ w a Q hI hrel hd hQ
    simp only [codeOk, Bool.and_eq_true] at hok
    simp only [evC] at h
    split at h
    · rename_i b hb
      have hv := evalT_rel hrel 0 q
      rw [hb] at hv
      refine wp_cond (relV_bool hv) ?_
      cases b with
      | true =>
        simp only [if_true] at h ⊢
        exact code_sound hm hΓ hcall c i hok.1 env st x env' st' h S σ w a Q hI hrel hd hQ
      | false =>
        simp only [Bool.false_eq_true, if_false] at h ⊢
        exact code_sound hm hΓ hcall d i hok.2 env st x env' st' h S σ w a Q hI hrel hd hQ
    · cases h
  | .block id c, i, hok => by
    intro env st x env' st' h S σ w a Q hI hrel hd hQ
    simp only [codeOk] at hok
    simp only [evC] at h
    refine wp_block ?_
    cases hq : evC P Γ call L ms lv id c env st with
    | none => rw [hq] at h; cases h
    | some r =>
      obtain ⟨y, e, s⟩ := r
      rw [hq] at h
      refine code_sound hm hΓ hcall c id hok env st y e s hq S σ w a _ hI hrel hd ?_
      intro S' σ' w' a' q1 q2 q3 q4 q5
      cases y with
      | normal =>
        simp only [blkR, Option.some.injEq, Prod.mk.injEq] at h
        obtain ⟨rfl, rfl, rfl⟩ := h
        exact hQ S' σ' w' a' q1 q2 q3 q4 q5
      | ret =>
        simp only [blkR, Option.some.injEq, Prod.mk.injEq] at h
        obtain ⟨rfl, rfl, rfl⟩ := h
        exact hQ S' σ' w' a' q1 q2 q3 q4 q5
      | exit j =>
        simp only [blkR] at h
        simp only [exitOf, Exit.inBlock]
        split at h
        · rename_i hj
          simp only [Option.some.injEq, Prod.mk.injEq] at h
          obtain ⟨rfl, rfl, rfl⟩ := h
          rw [if_pos hj]
          exact hQ S' σ' w' a' q1 q2 q3 q4 q5
        · rename_i hj
          simp only [Option.some.injEq, Prod.mk.injEq] at h
          obtain ⟨rfl, rfl, rfl⟩ := h
          rw [if_neg hj]
          exact hQ S' σ' w' a' q1 q2 q3 q4 q5
  | .loop c, i, hok => by
    intro env st x env' st' h S σ w a Q hI hrel hd hQ
    simp only [evC] at h
    exact wp_of_round (iter_sound (code_sound hm hΓ hcall c i (by simpa [codeOk] using hok)) L env st x env' st' h S σ w a Q hI hrel hd hQ)
  | .rangeFunc .., _, _ => by intro env st x env' st' h; simp [evC] at h
  | .scope _, _, _ => by intro env st x env' st' h; simp [evC] at h
  | .goto _, _, _ => by intro env st x env' st' h; simp [evC] at h
  | .refuse _, _, _ => by intro env st x env' st' h; simp [evC] at h

/-! ### functions -/
/-- The table's functions are the program's. -/
def TableOk (P : Program) (G : List FuncId) (T : Table) : Prop :=
  ∀ f en, T f = some en → P.funcs[f]? = some en.fn ∧ (en.fn.name == "runtime.NumGoroutine") = false ∧ ∀ c, en.fn.body = some c → codeOk en.ms G c = true

theorem pad_length : ∀ (xs : List V) (n : Nat), (pad xs n).length = max xs.length n
  | [], 0 => rfl
  | [], n + 1 => by simp [pad, pad_length [] n]
  | x :: xs, 0 => by simp [pad]
  | x :: xs, n + 1 => by simp [pad, pad_length xs n]
theorem pad_get : ∀ (xs : List V) (n i : Nat), V.get (pad xs n) i = V.get xs i
  | [], 0, i => rfl
  | [], n + 1, i => by cases i <;> simp [pad, V.get, pad_get [] n]
  | x :: xs, 0, i => rfl
  | x :: xs, n + 1, i => by cases i <;> simp [pad, V.get, pad_get xs n]
theorem relNs_get {S : Nat → Prop} {σ : Sig} {st : Store} {w : World} : ∀ {xs : List V} {vals : List Value} (i : Nat), RelNs P S σ st w xs vals → RelV P S σ st w (V.get xs i) ((vals[i]?).getD undef)
  | [], _, i, h => by cases h; simp [V.get]; exact und_rel _
  | x :: xs, _, i, h => by
    obtain ⟨u, r, rfl, h2, h3⟩ := h
    cases i with
    | zero => simpa [V.get] using h2.to_v
    | succ i => simpa [V.get] using relNs_get i h3

/-- One result. -/
def resOne (tmps : Array Value) : ResultVar → Sem Value
  | .tmp t => pure (tmps.getD t undef)
  | .cell c t => do loadVar t (← asAddr (tmps.getD c undef))
theorem resV_sound {S : Nat → Prop} {σ : Sig} {st : Store} {w : World} {env : List V} {a : Act} (hI : Inv P B0 S σ st w) (hrel : EnvRel P S σ st w env a.tmps) : ∀ {rs : List ResultVar} {vs : List V}, resV P st env rs = some vs →
    ∃ vals, (rs.mapM (resOne a.tmps)).run P w = .ok vals w ∧ RelNs P S σ st w vs vals
  | [], vs, h => by simp only [resV, Option.some.injEq] at h; subst h; exact ⟨[], rfl, rfl⟩
  | .tmp t :: r, vs, h => by
    simp only [resV] at h
    split at h
    · rename_i us hus
      obtain ⟨vals, h1, h2⟩ := resV_sound hI hrel hus
      have hv := hrel.2 t
      have hc : (∀ ws, V.get env t ≠ .tup ws) ∧ vs = V.get env t :: us := by
        unfold consV at h
        split at h
        · cases h
        · rename_i hn
          cases h
          exact ⟨fun ws hw => hn ws hw, rfl⟩
      obtain ⟨hn, rfl⟩ := hc
      refine ⟨a.tmps.getD t undef :: vals, ?_, ⟨_, _, rfl, hv.n hn, h2⟩⟩
      rw [List.mapM_cons]
      simp only [resOne, Sem.run_bind, Sem.run_pure, Result.andThen_ok, h1]
    · cases h
  | .cell c t :: r, vs, h => by
    simp only [resV] at h
    have hv := hrel.2 c
    split at h
    · rename_i k ver i path hp
      rw [hp] at hv
      split at h
      · split at h
        · rename_i hc
          obtain ⟨rfl, hl⟩ := hc
          split at h
          · rename_i v us hnth hus
            split at h
            · rename_i ht
              cases h
              obtain ⟨vals, h1, h2⟩ := resV_sound hI hrel hus
              obtain ⟨A, hA, _, hfr⟩ := relV_p hv
              rw [nth_eq] at hnth
              have hgp : getPath v [] = some v := by cases v <;> rfl
              obtain ⟨val, g1, g2⟩ := load_ok hI hl hnth hgp ht (hfr rfl hl)
              refine ⟨val :: vals, ?_, ⟨val, vals, rfl, g2.n (hasT_tup ht), h2⟩⟩
              rw [List.mapM_cons]
              have h0 : (resOne a.tmps (.cell c t)).run P w = .ok val w := by
                simp only [resOne, Sem.run_bind, hA, asAddr, Sem.run_pure, Result.andThen_ok, g1]
              simp only [Sem.run_bind, h0, Result.andThen_ok, h1, Sem.run_pure]
            · cases h
          · cases h
        · cases h
      · cases h
    · cases h

theorem results_sound {S : Nat → Prop} {σ : Sig} {st : Store} {w : World} {env : List V} {a : Act} {fn : Func} {vs : List V} (hI : Inv P B0 S σ st w) (hrel : EnvRel P S σ st w env a.tmps) (h : resV P st env fn.results.toList = some vs) :
    ∃ val, (results fn a.tmps).run P w = .ok val w ∧ RelV P S σ st w (retV vs) val := by
  obtain ⟨vals, h1, h2⟩ := resV_sound hI hrel h
  have hl := relNs_length h2
  have hres : results fn a.tmps = (fn.results.mapM (resOne a.tmps) >>= fun vs => pure (if h : vs.size = 1 then vs[0] else .tuple vs)) := rfl
  have hrun := run_mapM_arr _ fn.results vals w h1
  rw [hres]
  simp only [Sem.run_bind, hrun, Result.andThen_ok]
  rcases ret_cases vs with ⟨v, rfl, hr⟩ | hr
  · obtain ⟨u, r, rfl, g2, g3⟩ := h2
    cases g3
    rw [hr]
    exact ⟨u, by simp, g2.to_v⟩
  · rw [hr]
    have hne : vals.toArray.size ≠ 1 := by
      intro he
      have : vs.length = 1 := by simpa [← hl] using he
      cases vs with
      | nil => simp at this
      | cons v r => cases r with
        | nil =>
          cases hv : v <;> rw [hv] at hr <;> first
            | (simp [retV] at hr; done)
            | skip
          all_goals
            obtain ⟨u, q, rfl, g2, g3⟩ := h2
            rw [hv] at g2
            rcases g2 with g2 | ⟨g2, _⟩ | ⟨_, g2⟩
            · cases g2
            · cases g2
            · exact g2.elim
        | cons u r => simp at this
    refine ⟨.tuple vals.toArray, ?_, vals, rfl, h2⟩
    simp only [dif_neg hne, Sem.run_pure]

theorem evF_sound {T : Table} (hm : P.follows .mixedOrders = true) (hΓ : ∀ g s, look Γ g = some s → SpecOk P g s) (hT : TableOk P (Γ.map (·.1)) T) : ∀ c, CallerOk P (evF P Γ T L c)
  | 0 => by intro f xs lv st v st' h; cases h
  | c + 1 => by
    intro f xs lv st v st' h B0 S σ w vals hI hx
    simp only [evF] at h
    split at h
    · rename_i en hen
      split at h
      · rename_i code hcode
        obtain ⟨t1, t2, t3⟩ := hT f en hen
        refine .inl ⟨en.fn, t1, t2, by rw [hcode]; rfl, ?_⟩
        refine calls_of_wp t1 hcode ?_
        cases hr : evC P Γ (evF P Γ T L c) L en.ms lv 0 code (pad xs en.fn.ntmps) st with
        | none => rw [hr] at h; cases h
        | some q =>
          obtain ⟨x, env', s⟩ := q
          rw [hr] at h
          have hout : x ≠ .normal → x = .ret ∨ ∃ i, x = .exit i := by cases x <;> simp
          have hres : (x = .ret ∨ x = .normal) ∧ ∃ vs, resV P s env' en.fn.results.toList = some vs ∧ v = retV vs ∧ st' = s := by
            cases x with
            | exit i => cases h
            | normal =>
              simp only [outR] at h
              cases hq : resV P s env' en.fn.results.toList with
              | none => rw [hq] at h; cases h
              | some vs => rw [hq] at h; cases h; exact ⟨.inr rfl, vs, rfl, rfl, rfl⟩
            | ret =>
              simp only [outR] at h
              cases hq : resV P s env' en.fn.results.toList with
              | none => rw [hq] at h; cases h
              | some vs => rw [hq] at h; cases h; exact ⟨.inl rfl, vs, rfl, rfl, rfl⟩
          obtain ⟨hx', vs, hvs, rfl, rfl⟩ := hres
          refine code_sound hm hΓ (evF_sound hm hΓ hT c) code 0 (t3 code hcode) _ st x env' st' hr S σ w _ _ hI ?_ rfl ?_
          · have hlen := relNs_length hx
            refine ⟨by rw [pad_length]; simp [hlen] <;> omega, fun i => ?_⟩
            rw [pad_get]
            have := relNs_get i hx
            by_cases hi : i < vals.length
            · have e : (vals.toArray ++ Array.replicate (en.fn.ntmps - vals.toArray.size) undef).getD i undef = (vals[i]?).getD undef := by
                simp [Array.getD_eq_getD_getElem?, Array.getElem?_append, hi]
              rw [e]; exact this
            · have : V.get xs i = .und := by rw [get_eq]; simp [List.getD, List.getElem?_eq_none (show xs.length ≤ i by omega)]
              rw [this]; exact und_rel _
          · intro S' σ' w' a' q1 q2 q3 q4 q5
            obtain ⟨val, r1, r2⟩ := results_sound q1 q4 hvs
            rcases hx' with rfl | rfl <;> exact ⟨q5, val, r1, val, rfl, S', σ', q1, q2, q3, r2⟩
      · cases h
    · cases h

/-! ### results as data -/
theorem mapO_rels {S S' : Nat → Prop} {σ : Sig} {st : Store} {w : World} {f : V → Option D} (hf : ∀ v x cs, f v = some x → RelC P S σ st w v cs → Fl P S' w x cs) : ∀ {vs : List V} {ds : List D} {css : List (List Value)}, mapO f vs = some ds → RelC.rels P S σ st w vs css → Fl.fls P S' w ds css
  | [], ds, css, h, hr => by simp [mapO] at h; subst h; exact hr
  | v :: vs, ds, css, h, hr => by
    simp only [mapO] at h
    split at h
    · rename_i x xs h1 h2
      cases h
      obtain ⟨c, r, rfl, g2, g3⟩ := hr
      exact ⟨c, r, rfl, hf v x c h1 g2, mapO_rels hf h2 g3⟩
    · cases h
/-- Where results may lie: what was safe, and what is new. -/
theorem fin_rel {S S' : Nat → Prop} {σ : Sig} {st : Store} {w : World} (hI : Inv P B0 S σ st w) (hS : ∀ b, S b → S' b) (hN : ∀ b, B0 ≤ b → b < w.heap.size → S' b) : ∀ (n : Nat) (v : V) (x : D) (cs : List Value), V.fin st n v = some x → RelC P S σ st w v cs → Fl P S' w x cs
  | 0, v, x, cs, h, _ => by simp [V.fin] at h
  | n + 1, v, x, cs, h, hr => by
    cases v with
    | d y => simp [V.fin] at h; subst h; exact Fl.mono hS (fun _ _ => rfl) _ _ hr
    | agg t vs =>
      simp only [V.fin, Option.map_eq_some_iff] at h
      obtain ⟨ds, h1, rfl⟩ := h
      obtain ⟨css, g1, g2, g3⟩ := hr
      exact ⟨css, g1, g2, mapO_rels (fin_rel hI hS hN n) h1 g3⟩
    | nils e =>
      simp [V.fin] at h; subst h
      obtain ⟨A, rfl⟩ := hr
      exact ⟨A, 0, rfl, .inl rfl⟩
    | rs er k ver off len full =>
      simp only [V.fin] at h
      split at h
      · rename_i e vs he
        simp only [Option.map_eq_some_iff] at h
        obtain ⟨ds, h1, rfl⟩ := h
        obtain ⟨A, c, rfl, hc⟩ := hr
        have hx : RelV P S σ st w (.rs er k ver off len full) (.slice A len c) := RelC.to_v ⟨A, c, rfl, hc⟩ rfl
        obtain ⟨A', c', css, q1, q2, q3, q4⟩ := elems_ok he hI hx
        have hl := rels_length q2
        simp only [Value.slice.injEq] at q1
        obtain ⟨rfl, hlen, rfl⟩ := q1
        have hf := mapO_rels (fin_rel hI hS hN n) h1 q2
        have hdl := fls_length hf
        refine ⟨A, c, by rw [hlen, ← hl, hdl], ?_⟩
        by_cases hd : ds = []
        · exact .inl hd
        · right
          have hdpos : 0 < ds.length := List.length_pos_iff.2 hd
          rcases q4 with q4 | ⟨a, rfl, hcell⟩
          · rw [q4] at hl; simp at hl; subst hl; simp at hdl; omega
          · have hlc := hc.1
            obtain ⟨hv1, hv2, hle⟩ : (st k).ver = ver ∧ (st k).live = true ∧ off + len ≤ (st k).vs.length := by
              simp only [elemsOf] at he
              split at he
              · assumption
              · cases he
            obtain ⟨g0, gp, g1, g2⟩ := hc.2.2.2 hv1.symm hv2
            obtain ⟨hn, hsm⟩ := (hI.own k hv2).row (by rw [g0]; exact gp)
            cases hσ : σ k with
            | none => have := (g1 hσ).2; omega
            | some bc =>
              obtain ⟨b, cap⟩ := bc
              obtain ⟨p1, p2, p3⟩ := g2 b cap hσ
              obtain ⟨f1, f2, f3, cur, cssk, f4, f5, f6, f7, f8, f9, f10⟩ := hsm b cap hσ
              rcases p1 with p1 | p1
              · omega
              · cases p1
                refine ⟨b, off * szOf P (st k).e, css, rfl, hN b f1 f2, by omega, q3, ?_, hf⟩
                refine ⟨cur, (st k).e, (0, 0), f4, fun j hj => ?_⟩
                have := hcell j _ (List.getElem?_eq_getElem hj)
                rw [add_none, cell_of_row w b _ cur _ _ f4] at this
                rw [this, List.getElem?_eq_getElem hj]
      · cases h
    | _ => simp [V.fin] at h
theorem fin_agg {st : Store} {n : Nat} {v : V} {x : D} (h : V.fin st n v = some x) : (V.d x).isAgg = v.isAgg := by
  cases n with
  | zero => simp [V.fin] at h
  | succ n =>
    cases v with
    | d y => simp [V.fin] at h; subst h; rfl
    | agg t vs =>
      simp only [V.fin, Option.map_eq_some_iff] at h
      obtain ⟨ds, h1, rfl⟩ := h
      rfl
    | nils e => simp [V.fin] at h; subst h; rfl
    | rs er k ver off len full =>
      simp only [V.fin] at h
      split at h
      · simp only [Option.map_eq_some_iff] at h
        obtain ⟨ds, h1, rfl⟩ := h
        rfl
      · cases h
    | _ => simp [V.fin] at h
theorem fin_relN {S S' : Nat → Prop} {σ σ' : Sig} {st st' : Store} {w : World} (hI : Inv P B0 S σ st w) (hS : ∀ b, S b → S' b) (hN : ∀ b, B0 ≤ b → b < w.heap.size → S' b) {n : Nat} {v : V} {x : D} {val : Value} (h : V.fin st n v = some x) (hr : RelN P S σ st w v val) : RelN P S' σ' st' w (.d x) val := by
  have ha := fin_agg h
  rcases hr with hr | ⟨h1, cs, rfl, h3⟩ | ⟨h1, h2⟩
  · subst hr; cases n <;> simp [V.fin] at h
  · exact .inr (.inl ⟨by rw [ha, h1], cs, rfl, fin_rel hI hS hN n v x cs h h3⟩)
  · exact .inr (.inr ⟨by rw [ha, h1], fin_rel hI hS hN n v x _ h h2⟩)
theorem fin_relNs {S S' : Nat → Prop} {σ σ' : Sig} {st st' : Store} {w : World} (hI : Inv P B0 S σ st w) (hS : ∀ b, S b → S' b) (hN : ∀ b, B0 ≤ b → b < w.heap.size → S' b) {n : Nat} : ∀ {vs : List V} {xs : List D} {vals : List Value}, mapO (V.fin st n) vs = some xs → RelNs P S σ st w vs vals → RelNs P S' σ' st' w (xs.map V.d) vals
  | [], xs, vals, h, hr => by simp [mapO] at h; subst h; exact hr
  | v :: vs, xs, vals, h, hr => by
    simp only [mapO] at h
    split at h
    · rename_i x r h1 h2
      cases h
      obtain ⟨u, q, rfl, g2, g3⟩ := hr
      exact ⟨u, q, rfl, fin_relN hI hS hN h1 g2, fin_relNs hI hS hN h2 g3⟩
    · cases h

theorem inv_empty {S : Nat → Prop} {w : World} (hS : ∀ b, S b → b < w.heap.size) : Inv P w.heap.size S (fun _ => none) empty w :=
  ⟨Nat.le_refl _, hS, fun k hl => by simp [empty] at hl, fun k k' hl => by simp [empty] at hl⟩

/-- The contract of a function that the evaluator runs. -/
theorem call_of_ev {T : Table} {f : FuncId} (hm : P.follows .mixedOrders = true) (hΓ : ∀ g s, look Γ g = some s → SpecOk P g s) (hT : TableOk P (Γ.map (·.1)) T) {L c : Nat} {xs rs : List D} (htop : evTop P Γ T L c f xs = some rs)
    {S : Nat → Prop} {w : World} {vals : List Value} (hS : ∀ b, S b → b < w.heap.size) (hargs : ArgsOk P S w xs vals) : CallIn P f vals.toArray w fun val w' => Below w.heap.size w w' ∧ ResOk P (Plus S w w') w' rs val := by
  unfold evTop at htop
  cases hq : evF P Γ T L c f (xs.map V.d) 0 empty with
  | none => rw [hq] at htop; cases htop
  | some q =>
    obtain ⟨v, st'⟩ := q
    rw [hq] at htop
    refine (evF_sound hm hΓ hT c f (xs.map V.d) 0 empty v st' hq w.heap.size S (fun _ => none) w vals (inv_empty hS) (hargs _ _)).mono ?_
    rintro val w' ⟨S', σ', h1, h2, h3, h4⟩
    refine ⟨h3, fun σ0 st0 => ?_⟩
    -- results lie in what was safe, or in what is new
    have hS1 : ∀ b, S' b → Plus S w w' b := fun b hb => (h2.less b hb).imp id (fun q => ⟨q, h1.safe b hb⟩)
    have hN1 : ∀ b, w.heap.size ≤ b → b < w'.heap.size → Plus S w w' b := fun b q1 q2 => .inr ⟨q1, q2⟩
    by_cases hv : ∃ vs, v = .tup vs
    · obtain ⟨vs, rfl⟩ := hv
      obtain ⟨vals', g1, g2⟩ := h4
      have hm1 : mapO (V.fin st' 9) vs = some rs ∧ vs.length ≠ 1 := by
        cases vs with
        | nil => exact ⟨htop, by simp⟩
        | cons x r => cases r with
          | nil => cases htop
          | cons y r => exact ⟨htop, by simp⟩
      have g3 := fin_relNs (σ' := σ0) (st' := st0) h1 hS1 hN1 hm1.1 g2
      have hl1 := relNs_length g3
      have hl2 := relNs_length g2
      have hr : retV (rs.map V.d) = .tup (rs.map V.d) := by
        cases hq : rs.map V.d with
        | nil => rfl
        | cons x r => cases r with
          | nil => rw [hq] at hl1; simp at hl1; omega
          | cons y r => rfl
      rw [hr]
      exact ⟨vals', g1, g3⟩
    · have hn : ∀ vs, v ≠ .tup vs := fun vs e => hv ⟨vs, e⟩
      have htop' : oneL (V.fin st' 9 v) = some rs := by
        cases v <;> first | exact htop | exact absurd rfl (hn _)
      cases hq2 : V.fin st' 9 v with
      | none => rw [hq2] at htop'; cases htop'
      | some x =>
        rw [hq2] at htop'
        cases htop'
        exact RelN.to_v (fin_relN h1 hS1 hN1 hq2 (h4.n hn))
theorem spec_of_ev {T : Table} {f : FuncId} {s : Spec} (hm : P.follows .mixedOrders = true) (hΓ : ∀ g s, look Γ g = some s → SpecOk P g s) (hT : TableOk P (Γ.map (·.1)) T)
    (h : ∀ xs rs, s.run xs = some rs → ∃ L c, evTop P Γ T L c f xs = some rs) : SpecOk P f s := by
  intro xs rs S w vals hrun hS hargs
  obtain ⟨L, c, htop⟩ := h xs rs hrun
  exact call_of_ev hm hΓ hT htop hS hargs

/-- A contract out of typed values: what stands for them, what is asked of them, what comes of them. -/
noncomputable def mkSpec {α : Type} (enc : α → List D) (pre : α → Prop) (out : α → List D) : Spec :=
  ⟨fun xs => open Classical in if h : ∃ x, xs = enc x ∧ pre x then some (out (Classical.choose h)) else none⟩
theorem mkSpec_run {α : Type} {enc : α → List D} {pre : α → Prop} {out : α → List D} (hinj : ∀ x y, enc x = enc y → x = y) (x : α) (hp : pre x) : (mkSpec enc pre out).run (enc x) = some (out x) := by
  have h : ∃ y, enc x = enc y ∧ pre y := ⟨x, rfl, hp⟩
  unfold mkSpec
  simp only
  rw [dif_pos h, hinj _ _ (Classical.choose_spec h).1.symm]
theorem mkSpec_inv {α : Type} {enc : α → List D} {pre : α → Prop} {out : α → List D} {xs rs : List D} (h : (mkSpec enc pre out).run xs = some rs) : ∃ x, xs = enc x ∧ pre x ∧ rs = out x := by
  unfold mkSpec at h
  simp only at h
  split at h
  · rename_i hx
    cases h
    exact ⟨_, (Classical.choose_spec hx).1, (Classical.choose_spec hx).2, rfl⟩
  · cases h
/-- The contract of a function, from its run on typed values. -/
theorem spec_of {T : Table} {f : FuncId} {α : Type} {enc : α → List D} {pre : α → Prop} {out : α → List D} (hm : P.follows .mixedOrders = true) (hΓ : ∀ g s, look Γ g = some s → SpecOk P g s) (hT : TableOk P (Γ.map (·.1)) T)
    (h : ∀ x, pre x → ∃ L c, evTop P Γ T L c f (enc x) = some (out x)) : SpecOk P f (mkSpec enc pre out) :=
  spec_of_ev hm hΓ hT fun xs rs hr => by
    obtain ⟨x, rfl, hp, rfl⟩ := mkSpec_inv hr
    exact h x hp
theorem specs_nil : ∀ g s, look [] g = some s → SpecOk P g s := fun g s h => by cases h
theorem specs_cons {f : FuncId} {s : Spec} {Γ : Specs} (h : SpecOk P f s) (hr : ∀ g s, look Γ g = some s → SpecOk P g s) : ∀ g s', look ((f, s) :: Γ) g = some s' → SpecOk P g s' := by
  intro g s' hl
  simp only [look] at hl
  split at hl
  · rename_i hg; subst hg; cases hl; exact h
  · exact hr g s' hl

theorem table_nil {G : List FuncId} : TableOk P G (tableOf []) := fun f en h => by cases h
theorem table_cons {G : List FuncId} {f : FuncId} {e : Entry} {l : List (FuncId × Entry)} (h1 : P.funcs[f]? = some e.fn) (h2 : (e.fn.name == "runtime.NumGoroutine") = false) (h3 : (match e.fn.body with | some c => codeOk e.ms G c | none => true) = true) (hr : TableOk P G (tableOf l)) : TableOk P G (tableOf ((f, e) :: l)) := by
  intro g en hl
  simp only [tableOf] at hl
  split at hl
  · rename_i hg; subst hg; cases hl
    exact ⟨h1, h2, fun c hc => by rw [hc] at h3; exact h3⟩
  · exact hr g en hl
end
end Go.Ev
end
section
set_option linter.unusedVariables false
set_option linter.unusedSimpArgs false
namespace Go.Ev
open Go.RowKit

/-- What the cells of type t say, as data of a type of Lean's, and the bounds that it keeps. -/
def Opens (P : Program) (t : TypeId) {α : Type} (en : α → D) (WF : α → Prop) : Prop :=
  ∀ {H : Type} (enc : TypeId × Value → H) (w : World) (fuel : Nat) (cs : List Value) (y : DataW H × List MemPlace),
    DataW.trod enc P w 0 (fun _ => true) true fuel t cs = some y → (y.1.weights P t).all (· ≤ reachBytes) = true → ∃ x, Fl P (Old w) w (en x) cs ∧ WF x

theorem Opens.int {P : Program} {t : TypeId} {k : IntKind} (ht : P.underlying t = some (.int k)) : Opens P t (D.int k) (fun x => (Lit.int k x).wf = true) := by
  intro H enc w fuel cs y h _
  obtain ⟨n, rfl, rfl, hw⟩ := DataW.trod_int ht h
  exact ⟨n, rfl, hw⟩
theorem Opens.bool {P : Program} {t : TypeId} (ht : P.underlying t = some .bool) : Opens P t D.bool (fun _ => True) := by
  intro H enc w fuel cs y h _
  obtain ⟨n, rfl, rfl⟩ := DataW.trod_bool ht h
  exact ⟨n, rfl, trivial⟩
theorem Opens.string {P : Program} {t : TypeId} (ht : P.underlying t = some .string) : Opens P t D.str (fun s => s.size ≤ 140737488351232) := by
  intro H enc w fuel cs y h hw
  obtain ⟨s, rfl, rfl, hs⟩ := DataW.trod_string ht h
  refine ⟨s, rfl, ?_⟩
  simp only [DataW.weights, List.all_cons, List.all_nil, Bool.and_true, Array.length_toList] at hw
  exact of_decide_eq_true hw
theorem Opens.iso {P : Program} {t : TypeId} {α β : Type} {en : α → D} {WF : α → Prop} (f : β → α) (g : α → β) (hg : ∀ x, f (g x) = x) (h : Opens P t en WF) : Opens P t (fun y => en (f y)) (fun y => WF (f y)) := by
  intro H enc w fuel cs y hy hw
  obtain ⟨x, hx, hwx⟩ := h enc w fuel cs y hy hw
  exact ⟨g x, by show Fl P (Old w) w (en (f (g x))) cs; rw [hg]; exact hx, by show WF (f (g x)); rw [hg]; exact hwx⟩
theorem all_of {H : Type} {P : Program} {e : TypeId} {l : List (DataW H)} (h : (DataW.weightsAll P e l).all (· ≤ reachBytes) = true) : ∀ y ∈ l, (y.weights P e).all (· ≤ reachBytes) = true := by
  induction l with
  | nil => intro y hy; simp at hy
  | cons a l ih =>
    simp only [DataW.weightsAll, List.all_append, Bool.and_eq_true] at h
    intro y hy
    rcases List.mem_cons.1 hy with rfl | hy
    · exact h.1
    · exact ih h.2 y hy

theorem fls_of {P : Program} {S : Nat → Prop} {w : World} {α : Type} {en : α → D} : ∀ {xs : List α} {css : List (List Value)}, xs.length = css.length → (∀ (i : Nat) (x : α) (c : List Value), xs[i]? = some x → css[i]? = some c → Fl P S w (en x) c) → Fl.fls P S w (xs.map en) css
  | [], [], _, _ => rfl
  | [], _ :: _, h, _ => by simp at h
  | _ :: _, [], h, _ => by simp at h
  | x :: xs, c :: css, hl, h => ⟨c, css, rfl, h 0 x c rfl rfl, fls_of (by simpa using hl) fun i y d hy hd => h (i + 1) y d (by simpa using hy) (by simpa using hd)⟩

theorem Opens.slice {P : Program} {t e : TypeId} {α : Type} {en : α → D} {WF : α → Prop} {B : Nat} (ht : P.underlying t = some (.slice e)) (hp : 0 < P.cellsOf e) (hB : P.bytesOf e = B) (h : Opens P e en WF) :
    Opens P t (fun xs : List α => D.sl e (xs.map en)) (fun xs => xs.length * B ≤ 140737488351232 ∧ ∀ x ∈ xs, WF x) := by
  intro H enc w fuel cs y hy hw
  rcases DataW.trod_slice ht hy with ⟨rfl, rfl⟩ | ⟨a, len, cap, elems, rest, n, _, rfl, rfl, hb, hl, hm, hlen, hel, _, _⟩
  · exact ⟨[], ⟨none, 0, rfl, .inl rfl⟩, by simp, fun x hx => by simp at hx⟩
  · simp only [DataW.weights, ht, List.all_cons, List.all_append, Bool.and_eq_true, decide_eq_true_eq, List.length_map] at hw
    obtain ⟨hw0, hw1, _⟩ := hw
    have hwe := all_of hw1
    have hx : ∀ i, i < len → ∃ (x : α) (c : List Value), c.length = P.cellsOf e ∧ Fl P (Old w) w (en x) c ∧ (∀ j u, c[j]? = some u → w.cell? (a.add (i * P.cellsOf e + j)) = some u) ∧ WF x := by
      intro i hi
      have h1 := hel i hi
      rw [List.getElem?_eq_getElem (by omega)] at h1
      obtain ⟨c, hc, hr⟩ := Option.bind_eq_some_iff.1 h1
      obtain ⟨x, hK, hwf⟩ := h enc w n c _ hr (hwe _ (List.mem_map.2 ⟨_, List.getElem_mem _, rfl⟩))
      obtain ⟨_, hcl, h2⟩ := World.cells?_some hc
      refine ⟨x, c, hcl, hK, fun j u hu => ?_, hwf⟩
      have hj : j < P.cellsOf e := by
        have := (List.getElem?_eq_some_iff.1 hu).1
        omega
      have h3 := h2 j hj
      rw [Go.Addr.add_add] at h3
      rw [h3, hu]
    refine ⟨List.ofFn (n := len) fun i => Classical.choose (hx i.1 i.2), ?_, ?_, ?_⟩
    · refine ⟨some a, cap, by simp, ?_⟩
      by_cases h0 : len = 0
      · left; subst h0; simp
      · right
        have hspec : ∀ i, (hi : i < len) → ∃ c : List Value, c.length = P.cellsOf e ∧ Fl P (Old w) w (en (Classical.choose (hx i hi))) c ∧ (∀ j u, c[j]? = some u → w.cell? (a.add (i * P.cellsOf e + j)) = some u) := by
          intro i hi
          obtain ⟨c, h1, h2, h3, _⟩ := Classical.choose_spec (hx i hi)
          exact ⟨c, h1, h2, h3⟩
        -- all cells, one behind the other
        let css : List (List Value) := List.ofFn (n := len) fun i => Classical.choose (hspec i.1 i.2)
        have hcs : ∀ i (hi : i < len), css[i]? = some (Classical.choose (hspec i hi)) := by
          intro i hi
          simp only [css]
          rw [List.getElem?_ofFn, dif_pos hi]
        have hcl : ∀ c ∈ css, c.length = szOf P e := by
          intro c hc
          obtain ⟨i, rfl⟩ := List.mem_ofFn.1 hc
          exact (Classical.choose_spec (hspec i.1 i.2)).1
        have hcn : css.length = len := by simp [css]
        have hcell : ∀ j u, css.flatten[j]? = some u → w.cell? (a.add j) = some u := by
          intro j u hj
          have hjl := (List.getElem?_eq_some_iff.1 hj).1
          rw [length_flatten_eq hcl, hcn] at hjl
          have hq : j / szOf P e < len := Nat.div_lt_of_lt_mul (by rw [Nat.mul_comm]; exact hjl)
          have hr := Nat.mod_lt j (show 0 < szOf P e from hp)
          have hci := hcs (j / szOf P e) hq
          obtain ⟨g1, g2⟩ := flatten_at hci
          rw [take_sum_const hcl (by omega)] at g2
          obtain ⟨s1, s2, s3⟩ := Classical.choose_spec (hspec (j / szOf P e) hq)
          have hm2 := g2 (j % szOf P e) (by rw [s1]; exact hr)
          have e1 : j / szOf P e * szOf P e + j % szOf P e = j := by rw [Nat.mul_comm]; exact Nat.div_add_mod _ _
          rw [e1, hj] at hm2
          have := s3 (j % szOf P e) u hm2.symm
          have e2 : j / szOf P e * P.cellsOf e + j % szOf P e = j := e1
          rw [e2] at this
          exact this
        have hlp : 0 < css.flatten.length := by rw [length_flatten_eq hcl, hcn]; exact Nat.mul_pos (by omega) hp
        have hfirst := hcell 0 _ (List.getElem?_eq_getElem hlp)
        have ha0 : a.add 0 = a := rfl
        rw [ha0] at hfirst
        obtain ⟨b, o, sp⟩ := a
        have hsp : sp = none := by
          cases sp with
          | none => rfl
          | some q =>
            unfold World.cell? at hfirst
            split at hfirst
            · simp at hfirst
            · cases hfirst
        subst hsp
        have hheap : ∃ c' e' fz, w.heap[b]? = some (.cells c' e' fz) := by
          unfold World.cell? at hfirst
          split at hfirst
          · rename_i c' e' fz hb'; exact ⟨c', e', fz, hb'⟩
          · cases hfirst
        obtain ⟨c', e', fz, hb'⟩ := hheap
        refine ⟨b, o, css, rfl, (Array.getElem?_eq_some_iff.1 hb').1, by simpa using hl, hcl, ⟨c', e', fz, hb', fun j hj => ?_⟩, fls_of (by simp [hcn]) ?_⟩
        · have := hcell j _ (List.getElem?_eq_getElem hj)
          rw [add_none, cell_of_row w b _ c' _ _ hb'] at this
          rw [this, List.getElem?_eq_getElem hj]
        · intro i x c hxi hci
          have hi : i < len := by have := (List.getElem?_eq_some_iff.1 hxi).1; simpa using this
          rw [List.getElem?_ofFn, dif_pos hi] at hxi
          rw [hcs i hi] at hci
          cases hxi
          cases hci
          exact (Classical.choose_spec (hspec i hi)).2.1
    · have : len * B ≤ (elems.length + rest.length) * P.bytesOf e := by rw [hB]; exact Nat.mul_le_mul_right _ (by omega)
      simp only [List.length_ofFn, reachBytes] at hw0 ⊢
      omega
    · intro x hxm
      obtain ⟨i, rfl⟩ := List.mem_ofFn.1 hxm
      obtain ⟨c, _, _, _, h4⟩ := Classical.choose_spec (hx i.1 i.2)
      exact h4

/-- Fields in line, from the cell off on. -/
def OpensF (P : Program) (fs : List Field) (off : Nat) {α : Type} (en : α → List D) (WF : α → Prop) : Prop :=
  ∀ {H : Type} (enc : TypeId × Value → H) (w : World) (n : Nat) (cs : List Value) (xs : List (DataW H × List MemPlace)), xs.length = fs.length →
    (∀ (i : Nat) (f : Field), fs[i]? = some f → DataW.trod enc P w 0 (fun _ => true) true n f.type ((cs.drop f.offset).take (P.cellsOf f.type)) = xs[i]?) →
    (DataW.weightsEach P (fs.map (·.type)) (xs.map (·.1))).all (· ≤ reachBytes) = true → off + (fs.map fun f => szOf P f.type).sum = cs.length → ∃ x css, Fl.fls P (Old w) w (en x) css ∧ css.flatten = cs.drop off ∧ css.map List.length = (fs.map fun f => szOf P f.type) ∧ WF x
theorem OpensF.nil {P : Program} {off : Nat} : OpensF P [] off (fun _ : Unit => []) (fun _ => True) := by
  intro H enc w n cs xs hl hf hw hc
  exact ⟨(), [], rfl, by simp at hc; simp [hc], rfl, trivial⟩
theorem OpensF.cons {P : Program} {f : Field} {fs : List Field} {off : Nat} {α β : Type} {en : α → D} {en' : β → List D} {WF : α → Prop} {WF' : β → Prop} (ho : f.offset = off) (h : Opens P f.type en WF)
    (hr : OpensF P fs (off + szOf P f.type) en' WF') : OpensF P (f :: fs) off (fun x : α × β => en x.1 :: en' x.2) (fun x => WF x.1 ∧ WF' x.2) := by
  intro H enc w n cs xs hl hf hw hc
  match xs, hl with
  | y :: ys, hl =>
    have h0 := hf 0 f rfl
    rw [ho] at h0
    simp only [List.map_cons, DataW.weightsEach, List.all_append, Bool.and_eq_true] at hw
    simp only [List.map_cons, List.sum_cons] at hc
    obtain ⟨x, hx, hwx⟩ := h enc w n _ _ h0 hw.1
    obtain ⟨z, css, hz, hfl, hmap, hwz⟩ := hr enc w n cs ys (by simpa using hl) (fun i g hg => by simpa using hf (i + 1) g (by simpa using hg)) hw.2 (by omega)
    refine ⟨(x, z), _ :: css, ⟨_, css, rfl, hx, hz⟩, ?_, ?_, hwx, hwz⟩
    · rw [List.flatten_cons, hfl]
      show List.take (szOf P f.type) (List.drop off cs) ++ _ = _
      rw [← List.drop_drop, List.take_append_drop]
    · rw [List.map_cons, hmap, List.map_cons]
      congr 1
      show (List.take (szOf P f.type) (List.drop off cs)).length = _
      simp; omega
theorem Opens.struct {P : Program} {t : TypeId} {fs : Array Field} {α : Type} {en : α → List D} {WF : α → Prop} (ht : P.underlying t = some (.struct fs)) (hc : comps P t = some (fs.toList.map fun f => szOf P f.type)) (h : OpensF P fs.toList 0 en WF) : Opens P t (fun x => D.agg t (en x)) WF := by
  intro H enc w fuel cs y hy hw
  obtain ⟨xs, n, rfl, rfl, hl, hlen, hf⟩ := DataW.trod_struct ht hy
  simp only [DataW.weights, ht] at hw
  have hs := comps_sum hc
  obtain ⟨x, css, h1, h2, h3, hwx⟩ := h enc w n cs xs (by simpa using hlen) (fun i f hi => hf i f (by simpa using hi)) hw (by rw [hs]; simp only [Nat.zero_add, szOf]; omega)
  exact ⟨x, ⟨css, by simpa using h2.symm, by rw [h3]; exact hc, h1⟩, hwx⟩

/-- One argument of several: its weights. -/
theorem weight_at {H : Type} {P : Program} : ∀ {ts : List TypeId} {ds : List (DataW H)} {j : Nat} {t : TypeId} {d : DataW H}, (DataW.weightsEach P ts ds).all (· ≤ reachBytes) = true → ts[j]? = some t → ds[j]? = some d → (d.weights P t).all (· ≤ reachBytes) = true
  | [], _, _, _, _, _, ht, _ => by simp at ht
  | _ :: _, [], _, _, _, _, _, hd => by simp at hd
  | t' :: ts, d' :: ds, 0, t, d, h, ht, hd => by
    simp only [DataW.weightsEach, List.all_append, Bool.and_eq_true] at h
    simp only [List.getElem?_cons_zero, Option.some.injEq] at ht hd
    subst ht; subst hd
    exact h.1
  | t' :: ts, d' :: ds, j + 1, t, d, h, ht, hd => by
    simp only [DataW.weightsEach, List.all_append, Bool.and_eq_true] at h
    exact weight_at h.2 (by simpa using ht) (by simpa using hd)

/-- An argument that is an aggregate. -/
theorem arg_agg {P : Program} {S : Nat → Prop} {σ : Sig} {st : Store} {w : World} {x : D} {cs : Array Value} (hx : (V.d x).isAgg = true) (h : Fl P S w x cs.toList) : RelN P S σ st w (.d x) (.agg cs) :=
  .inr (.inl ⟨hx, cs.toList, by simp, h⟩)
theorem arg_one {P : Program} {S : Nat → Prop} {σ : Sig} {st : Store} {w : World} {x : D} {v : Value} (hx : (V.d x).isAgg = false) (h : Fl P S w x [v]) : RelN P S σ st w (.d x) v := .inr (.inr ⟨hx, h⟩)

/-- The law's call, as the form asks for it. -/
theorem law_calls {P : Program} {f : FuncId} {fn : Func} {args : Array Value} {w : World} {b : Bool} {S : Nat → Prop} (hf : P.funcs[f]? = some fn) (hn : (fn.name == "runtime.NumGoroutine") = false) (hb : fn.body.isNone = false)
    (h : CallIn P f args w fun val w' => Below w.heap.size w w' ∧ ResOk P (Plus S w w') w' [.bool b] val) : Calls P f args w fun e w' => e = .returned (.bool b) ∧ Below w.heap.size w w' := by
  rcases h with ⟨fn', h1, h2, h3, h4⟩ | ⟨v, w', h1, _⟩
  · refine h4.mono ?_
    rintro e w' ⟨v, rfl, hbel, hr⟩
    have := hr (fun _ => none) empty
    exact ⟨by rw [relV_bool (show RelV P _ _ _ w' (.d (.bool b)) v from this)], hbel⟩
  · exfalso
    unfold callFunc at h1
    simp only [Sem.run_bind, run_program, Result.andThen_ok, hf, hn, hb, Bool.false_eq_true, if_false, Sem.run_pure] at h1
    cases h1
end Go.Ev
end
section
set_option linter.unusedVariables false
set_option linter.unusedSimpArgs false
namespace Go.Ev
open Go.RowKit
open Go.Proofs.YtmhjmjodchbhlaaR.Rows (uptoBulk uptoBulkAll)
theorem bulk_pos {H : Type} (d : DataW H) : 1 ≤ uptoBulk d := by
  cases d with
  | lit l => cases l <;> simp [uptoBulk]
  | _ => simp [uptoBulk]
theorem bulk_len {H : Type} {l : List (DataW H)} {n : Nat} (h : uptoBulkAll l ≤ n) : l.length ≤ n ∧ ∀ d ∈ l, uptoBulk d ≤ n := by
  induction l generalizing n with
  | nil => exact ⟨Nat.zero_le _, fun d hd => by simp at hd⟩
  | cons a l ih =>
    simp only [uptoBulkAll] at h
    have hp := bulk_pos a
    obtain ⟨h1, h2⟩ := ih (n := n - 1) (by omega)
    refine ⟨by simp only [List.length_cons]; omega, fun d hd => ?_⟩
    rcases List.mem_cons.1 hd with rfl | hd
    · omega
    · have := h2 d hd; omega
/-- What the cells of type t say, as data of a type of Lean's, and the bounds that it keeps, if it is of small bulk. -/
def OpensU (P : Program) (t : TypeId) {α : Type} (en : α → D) (WF : α → Prop) : Prop :=
  ∀ {H : Type} (enc : TypeId × Value → H) (w : World) (fuel : Nat) (cs : List Value) (y : DataW H × List MemPlace),
    DataW.trod enc P w 0 (fun _ => true) true fuel t cs = some y → (y.1.weights P t).all (· ≤ reachBytes) = true → uptoBulk y.1 ≤ 1048576 → ∃ x, Fl P (Old w) w (en x) cs ∧ WF x
theorem OpensU.of {P : Program} {t : TypeId} {α : Type} {en : α → D} {WF : α → Prop} (h : Opens P t en WF) : OpensU P t en WF := fun enc w fuel cs y h1 h2 _ => h enc w fuel cs y h1 h2
theorem OpensU.slice {P : Program} {t e : TypeId} {α : Type} {en : α → D} {WF : α → Prop} {B : Nat} (ht : P.underlying t = some (.slice e)) (hp : 0 < P.cellsOf e) (hB : P.bytesOf e = B) (h : OpensU P e en WF) :
    OpensU P t (fun xs : List α => D.sl e (xs.map en)) (fun xs => xs.length ≤ 1048576 ∧ ∀ x ∈ xs, WF x) := by
  intro H enc w fuel cs y hy hw hu
  rcases DataW.trod_slice ht hy with ⟨rfl, rfl⟩ | ⟨a, len, cap, elems, rest, n, _, rfl, rfl, hb, hl, hm, hlen, hel, _, _⟩
  · exact ⟨[], ⟨none, 0, rfl, .inl rfl⟩, by simp, fun x hx => by simp at hx⟩
  · simp only [DataW.weights, ht, List.all_cons, List.all_append, Bool.and_eq_true, decide_eq_true_eq, List.length_map] at hw
    obtain ⟨hw0, hw1, _⟩ := hw
    have hwe := all_of hw1
    simp only [uptoBulk] at hu
    have hue := bulk_len (l := elems.map (·.1)) (n := 1048576) (by omega)
    have hx : ∀ i, i < len → ∃ (x : α) (c : List Value), c.length = P.cellsOf e ∧ Fl P (Old w) w (en x) c ∧ (∀ j u, c[j]? = some u → w.cell? (a.add (i * P.cellsOf e + j)) = some u) ∧ WF x := by
      intro i hi
      have h1 := hel i hi
      rw [List.getElem?_eq_getElem (by omega)] at h1
      obtain ⟨c, hc, hr⟩ := Option.bind_eq_some_iff.1 h1
      obtain ⟨x, hK, hwf⟩ := h enc w n c _ hr (hwe _ (List.mem_map.2 ⟨_, List.getElem_mem _, rfl⟩)) (hue.2 _ (List.mem_map.2 ⟨_, List.getElem_mem _, rfl⟩))
      obtain ⟨_, hcl, h2⟩ := World.cells?_some hc
      refine ⟨x, c, hcl, hK, fun j u hu => ?_, hwf⟩
      have hj : j < P.cellsOf e := by
        have := (List.getElem?_eq_some_iff.1 hu).1
        omega
      have h3 := h2 j hj
      rw [Go.Addr.add_add] at h3
      rw [h3, hu]
    refine ⟨List.ofFn (n := len) fun i => Classical.choose (hx i.1 i.2), ?_, ?_, ?_⟩
    · refine ⟨some a, cap, by simp, ?_⟩
      by_cases h0 : len = 0
      · left; subst h0; simp
      · right
        have hspec : ∀ i, (hi : i < len) → ∃ c : List Value, c.length = P.cellsOf e ∧ Fl P (Old w) w (en (Classical.choose (hx i hi))) c ∧ (∀ j u, c[j]? = some u → w.cell? (a.add (i * P.cellsOf e + j)) = some u) := by
          intro i hi
          obtain ⟨c, h1, h2, h3, _⟩ := Classical.choose_spec (hx i hi)
          exact ⟨c, h1, h2, h3⟩
        -- all cells, one behind the other
        let css : List (List Value) := List.ofFn (n := len) fun i => Classical.choose (hspec i.1 i.2)
        have hcs : ∀ i (hi : i < len), css[i]? = some (Classical.choose (hspec i hi)) := by
          intro i hi
          simp only [css]
          rw [List.getElem?_ofFn, dif_pos hi]
        have hcl : ∀ c ∈ css, c.length = szOf P e := by
          intro c hc
          obtain ⟨i, rfl⟩ := List.mem_ofFn.1 hc
          exact (Classical.choose_spec (hspec i.1 i.2)).1
        have hcn : css.length = len := by simp [css]
        have hcell : ∀ j u, css.flatten[j]? = some u → w.cell? (a.add j) = some u := by
          intro j u hj
          have hjl := (List.getElem?_eq_some_iff.1 hj).1
          rw [length_flatten_eq hcl, hcn] at hjl
          have hq : j / szOf P e < len := Nat.div_lt_of_lt_mul (by rw [Nat.mul_comm]; exact hjl)
          have hr := Nat.mod_lt j (show 0 < szOf P e from hp)
          have hci := hcs (j / szOf P e) hq
          obtain ⟨g1, g2⟩ := flatten_at hci
          rw [take_sum_const hcl (by omega)] at g2
          obtain ⟨s1, s2, s3⟩ := Classical.choose_spec (hspec (j / szOf P e) hq)
          have hm2 := g2 (j % szOf P e) (by rw [s1]; exact hr)
          have e1 : j / szOf P e * szOf P e + j % szOf P e = j := by rw [Nat.mul_comm]; exact Nat.div_add_mod _ _
          rw [e1, hj] at hm2
          have := s3 (j % szOf P e) u hm2.symm
          have e2 : j / szOf P e * P.cellsOf e + j % szOf P e = j := e1
          rw [e2] at this
          exact this
        have hlp : 0 < css.flatten.length := by rw [length_flatten_eq hcl, hcn]; exact Nat.mul_pos (by omega) hp
        have hfirst := hcell 0 _ (List.getElem?_eq_getElem hlp)
        have ha0 : a.add 0 = a := rfl
        rw [ha0] at hfirst
        obtain ⟨b, o, sp⟩ := a
        have hsp : sp = none := by
          cases sp with
          | none => rfl
          | some q =>
            unfold World.cell? at hfirst
            split at hfirst
            · simp at hfirst
            · cases hfirst
        subst hsp
        have hheap : ∃ c' e' fz, w.heap[b]? = some (.cells c' e' fz) := by
          unfold World.cell? at hfirst
          split at hfirst
          · rename_i c' e' fz hb'; exact ⟨c', e', fz, hb'⟩
          · cases hfirst
        obtain ⟨c', e', fz, hb'⟩ := hheap
        refine ⟨b, o, css, rfl, (Array.getElem?_eq_some_iff.1 hb').1, by simpa using hl, hcl, ⟨c', e', fz, hb', fun j hj => ?_⟩, fls_of (by simp [hcn]) ?_⟩
        · have := hcell j _ (List.getElem?_eq_getElem hj)
          rw [add_none, cell_of_row w b _ c' _ _ hb'] at this
          rw [this, List.getElem?_eq_getElem hj]
        · intro i x c hxi hci
          have hi : i < len := by have := (List.getElem?_eq_some_iff.1 hxi).1; simpa using this
          rw [List.getElem?_ofFn, dif_pos hi] at hxi
          rw [hcs i hi] at hci
          cases hxi
          cases hci
          exact (Classical.choose_spec (hspec i hi)).2.1
    · have := hue.1
      simp only [List.length_ofFn, List.length_map] at this ⊢
      omega
    · intro x hxm
      obtain ⟨i, rfl⟩ := List.mem_ofFn.1 hxm
      obtain ⟨c, _, _, _, h4⟩ := Classical.choose_spec (hx i.1 i.2)
      exact h4

/-- Fields in line, from the cell off on. -/
def OpensFU (P : Program) (fs : List Field) (off : Nat) {α : Type} (en : α → List D) (WF : α → Prop) : Prop :=
  ∀ {H : Type} (enc : TypeId × Value → H) (w : World) (n : Nat) (cs : List Value) (xs : List (DataW H × List MemPlace)), xs.length = fs.length →
    (∀ (i : Nat) (f : Field), fs[i]? = some f → DataW.trod enc P w 0 (fun _ => true) true n f.type ((cs.drop f.offset).take (P.cellsOf f.type)) = xs[i]?) →
    (DataW.weightsEach P (fs.map (·.type)) (xs.map (·.1))).all (· ≤ reachBytes) = true → (∀ y ∈ xs, uptoBulk y.1 ≤ 1048576) → off + (fs.map fun f => szOf P f.type).sum = cs.length → ∃ x css, Fl.fls P (Old w) w (en x) css ∧ css.flatten = cs.drop off ∧ css.map List.length = (fs.map fun f => szOf P f.type) ∧ WF x
theorem OpensFU.nil {P : Program} {off : Nat} : OpensFU P [] off (fun _ : Unit => []) (fun _ => True) := by
  intro H enc w n cs xs hl hf hw hu hc
  exact ⟨(), [], rfl, by simp at hc; simp [hc], rfl, trivial⟩
theorem OpensFU.cons {P : Program} {f : Field} {fs : List Field} {off : Nat} {α β : Type} {en : α → D} {en' : β → List D} {WF : α → Prop} {WF' : β → Prop} (ho : f.offset = off) (h : OpensU P f.type en WF)
    (hr : OpensFU P fs (off + szOf P f.type) en' WF') : OpensFU P (f :: fs) off (fun x : α × β => en x.1 :: en' x.2) (fun x => WF x.1 ∧ WF' x.2) := by
  intro H enc w n cs xs hl hf hw hu hc
  match xs, hl with
  | y :: ys, hl =>
    have h0 := hf 0 f rfl
    rw [ho] at h0
    simp only [List.map_cons, DataW.weightsEach, List.all_append, Bool.and_eq_true] at hw
    simp only [List.map_cons, List.sum_cons] at hc
    obtain ⟨x, hx, hwx⟩ := h enc w n _ _ h0 hw.1 (hu _ (List.mem_cons_self ..))
    obtain ⟨z, css, hz, hfl, hmap, hwz⟩ := hr enc w n cs ys (by simpa using hl) (fun i g hg => by simpa using hf (i + 1) g (by simpa using hg)) hw.2 (fun y hy => hu y (List.mem_cons_of_mem _ hy)) (by omega)
    refine ⟨(x, z), _ :: css, ⟨_, css, rfl, hx, hz⟩, ?_, ?_, hwx, hwz⟩
    · rw [List.flatten_cons, hfl]
      show List.take (szOf P f.type) (List.drop off cs) ++ _ = _
      rw [← List.drop_drop, List.take_append_drop]
    · rw [List.map_cons, hmap, List.map_cons]
      congr 1
      show (List.take (szOf P f.type) (List.drop off cs)).length = _
      simp; omega
theorem OpensU.struct {P : Program} {t : TypeId} {fs : Array Field} {α : Type} {en : α → List D} {WF : α → Prop} (ht : P.underlying t = some (.struct fs)) (hc : comps P t = some (fs.toList.map fun f => szOf P f.type)) (h : OpensFU P fs.toList 0 en WF) : OpensU P t (fun x => D.agg t (en x)) WF := by
  intro H enc w fuel cs y hy hw hu
  obtain ⟨xs, n, rfl, rfl, hl, hlen, hf⟩ := DataW.trod_struct ht hy
  simp only [DataW.weights, ht] at hw
  have hs := comps_sum hc
  obtain ⟨x, css, h1, h2, h3, hwx⟩ := h enc w n cs xs (by simpa using hlen) (fun i f hi => hf i f (by simpa using hi)) hw (fun y hy => (bulk_len (l := xs.map (·.1)) (n := 1048576) (by simp only [uptoBulk] at hu; omega)).2 _ (List.mem_map.2 ⟨_, hy, rfl⟩)) (by rw [hs]; simp only [Nat.zero_add, szOf]; omega)
  exact ⟨x, ⟨css, by simpa using h2.symm, by rw [h3]; exact hc, h1⟩, hwx⟩


/-- The form of a row of small bulk, the reach handed to the contract. -/
theorem returns_cond_sized {H : Type} {enc : TypeId × Value → H} {a : Assume} {C : Checked} {os : Os} {f : FuncId} {fn : Func} {s : OpenSpec} {k : (H : Type) → List (DataW H) → Bool} (hk : s.cond = some k) {F : Stop.Interp} {conds : List PathCond} {apart fresh handsOn again : Bool}
    (own : ownKnob C.prog.godebug = none) (started : os.Started) (noInit : C.prog.inits.idxOf? f = none) (hfn : C.prog.funcs[f]? = some fn)
    (witness : ∃ (w : World) (tape : Tape) (i : Input), w.os = os ∧ (w.forCall tape i).Shaped C.prog ∧ i.vars = [] ∧ Input.okWide C.prog (w.forCall tape i) .any w.heap.size f i ∧
      s.pre6 enc C.prog fn conds apart (w.forCall tape i).memory i.args ∧ a.holds C.prog (lone (Frame.enter C.prog f i.args .normal) [] (w.forCall tape i)))
    (contract : ∀ (W : World) (base : Nat) (args : Array Value) (ds gs : List (DataW H)) (before : List MemPlace),
      (∀ (j : Nat) t v, fn.params[j]? = some t → args[j]? = some v → Value.okWide C.prog W .any base t v) →
      DataW.Whole enc C.prog fn.params.toList s.vars apart W args.toList ds gs before →
      (DataW.weightsEach C.prog (fn.params.toList ++ s.bare.plain.varTypes C.prog) (ds ++ gs)).all (· ≤ reachBytes) = true → k H (ds ++ gs) = true →
      Calls C.prog f args W fun e W' => ∃ v, e = .returned v ∧ (s.at F).post enc C.prog fn apart fresh handsOn again W args v W') :
    ReturnsInHanded a C os f .any (s.pre6 enc C.prog fn conds apart) ((s.at F).post enc C.prog fn apart fresh handsOn again) := by
  refine returnsInHanded_of_calls own started noInit witness ?_
  intro w tape i _ _ _ hok hpre hholds
  obtain ⟨_, _, _, fn', hfn', _, _, _, _, hval⟩ := hok
  have e : fn' = fn := Option.some.inj (hfn'.symm.trans hfn)
  subst e
  obtain ⟨hp1, hz⟩ := hpre
  obtain ⟨ds, gs, before, hw, hc, hkk⟩ := (OpenSpec.pre_some hk conds apart _ _).1 hp1
  have hw' := DataW.Whole.of_heap (w' := w.forCall tape i) (by rfl) hw
  refine (contract (w.forCall tape i) w.heap.size i.args ds gs before hval hw' (hz.weights hw) hkk).mono fun e W' ⟨v, he, hp⟩ => ?_
  subst he
  exact ChangeSpec.post_blind hp
theorem witness_small {H : Type} {enc : TypeId × Value → H} {C : Checked} {os : Os} {f : FuncId} {fn : Func} {s : OpenSpec} {k : (H : Type) → List (DataW H) → Bool} (hk : s.cond = some k) {conds : List PathCond} {apart : Bool} (modest : Bool) (i : Input) (fuel : Nat)
    (hv : (World.plainHolding C.prog os i).variablesB C.prog = true)
    (hr : ((World.plainHolding C.prog os i).heap.toList.drop C.prog.globals.size).take ((begin C.prog (fun _ _ => 0) default).world.heap.size - C.prog.globals.size) =
      (begin C.prog (fun _ _ => 0) default).world.heap.toList.drop C.prog.globals.size)
    (hok : Input.okWideB C.prog (World.plainHolding C.prog os i) f ⟨#[], i.args, []⟩ = true)
    (hx : (match DataW.whole enc C.prog (World.plainHolding C.prog os i).memory fn.params.toList s.vars apart i.args.toList fuel with
      | some x => conds.all (PathCond.test C.prog ⟨fn.params.toList, x.1, s.bare.plain.varTypes C.prog, x.2.1⟩) && k H (x.1 ++ x.2.1)
      | none => false) = true)
    (hsz : s.bare.sizedB enc C.prog fn apart (World.plainHolding C.prog os i).memory i.args fuel = true) :
    ∃ (w : World) (tape : Tape) (i : Input), w.os = os ∧ (w.forCall tape i).Shaped C.prog ∧ i.vars = [] ∧ Input.okWide C.prog (w.forCall tape i) .any w.heap.size f i ∧
      s.pre6 enc C.prog fn conds apart (w.forCall tape i).memory i.args ∧ ({ modest := modest } : Assume).holds C.prog (lone (Frame.enter C.prog f i.args .normal) [] (w.forCall tape i)) := by
  split at hx
  · rename_i x h1
    rw [Bool.and_eq_true] at hx
    exact OpenSpec.witness hk modest i fuel hv hr hok h1 hx.1 hx.2 hsz
  · cases hx
/-- One argument of several: its bulk. -/
theorem bulk_at {H : Type} {ds : List (DataW H)} (h : uptoBulkAll ds ≤ 1048576) {j : Nat} {d : DataW H} (hd : ds[j]? = some d) : uptoBulk d ≤ 1048576 := (bulk_len h).2 d (List.mem_of_getElem? hd)
end Go.Ev
end
section
set_option linter.unusedVariables false
set_option linter.unusedSimpArgs false
namespace Go.Ev
/-- How a value of Lean's stands as plain data. -/
structure Cod (α : Type) where
  e : α → D
  inj : ∀ x y, e x = e y → x = y
structure CodL (α : Type) where
  e : α → List D
  inj : ∀ x y, e x = e y → x = y
def cI (k : IntKind) : Cod Int := ⟨D.int k, fun x y h => by cases h; rfl⟩
def cB : Cod Bool := ⟨D.bool, fun x y h => by cases h; rfl⟩
def cS : Cod ByteArray := ⟨D.str, fun x y h => by cases h; rfl⟩
theorem map_inj' {α : Type} {f : α → D} (hf : ∀ x y, f x = f y → x = y) : ∀ {l l' : List α}, l.map f = l'.map f → l = l'
  | [], [], _ => rfl
  | [], _ :: _, h => by cases h
  | _ :: _, [], h => by cases h
  | x :: l, y :: l', h => by
    simp only [List.map_cons, List.cons.injEq] at h
    rw [hf _ _ h.1, map_inj' hf h.2]
def cL {α : Type} (t : TypeId) (c : Cod α) : Cod (List α) := ⟨fun l => .sl t (l.map c.e), fun x y h => by
  simp only [D.sl.injEq, true_and] at h
  exact map_inj' c.inj h⟩
def cA {α : Type} (t : TypeId) (c : CodL α) : Cod α := ⟨fun x => .agg t (c.e x), fun x y h => by
  simp only [D.agg.injEq, true_and] at h
  exact c.inj _ _ h⟩
def cNil : CodL Unit := ⟨fun _ => [], fun _ _ _ => rfl⟩
def cOne {α : Type} (c : Cod α) : CodL α := ⟨fun x => [c.e x], fun x y h => by
  simp only [List.cons.injEq, and_true] at h
  exact c.inj _ _ h⟩
def cCons {α β : Type} (c : Cod α) (r : CodL β) : CodL (α × β) := ⟨fun x => c.e x.1 :: r.e x.2, fun x y h => by
  simp only [List.cons.injEq] at h
  exact Prod.ext (c.inj _ _ h.1) (r.inj _ _ h.2)⟩
def cIso {α β : Type} (f : β → α) (hf : ∀ x y, f x = f y → x = y) (c : Cod α) : Cod β := ⟨fun y => c.e (f y), fun x y h => hf _ _ (c.inj _ _ h)⟩
noncomputable def specC {α : Type} (c : CodL α) (pre : α → Prop) (out : α → List D) : Spec := mkSpec c.e pre out
theorem specC_run {α : Type} (c : CodL α) (pre : α → Prop) (out : α → List D) (x : α) (hp : pre x) : (specC c pre out).run (c.e x) = some (out x) := mkSpec_run c.inj x hp
theorem specC_ok {P : Program} {Γ : Specs} {T : Table} {f : FuncId} {α : Type} {c : CodL α} {pre : α → Prop} {out : α → List D} (hm : P.follows .mixedOrders = true) (hΓ : ∀ g s, look Γ g = some s → SpecOk P g s) (hT : TableOk P (Γ.map (·.1)) T)
    (h : ∀ x, pre x → ∃ L n, evTop P Γ T L n f (c.e x) = some (out x)) : SpecOk P f (specC c pre out) := spec_of hm hΓ hT h
theorem SpecOk.weak {P : Program} {f : FuncId} {s s' : Spec} (h : SpecOk P f s) (hr : ∀ xs rs, s'.run xs = some rs → s.run xs = some rs) : SpecOk P f s' :=
  fun xs rs S w vals hrun => h xs rs S w vals (hr xs rs hrun)
end Go.Ev
end
section
set_option linter.unusedVariables false
set_option linter.unusedSimpArgs false
namespace Go.Ev
/-! ### a row that grows by appends -/
def grown (e : TypeId) (k : Key) : Nat → V
  | 0 => .nils e
  | n + 1 => .rs e k (n + 1) 0 (n + 1) true
def GrownB (b : Blk) (e : TypeId) (vs : List V) : Prop := (vs = [] → b.ver = 0) ∧ (vs ≠ [] → b = ⟨vs.length, e, vs, true⟩)
theorem appendTo_g {P : Program} {lv : Nat} {d : Tmp} {e : TypeId} {vs new : List V} {n : Nat} (hn : vs.length = n) (h1 : new.length = 1) (hb : n + 1 ≤ maxRow) (hm : (n + 1) * P.bytesOf e ≤ maxRow) (st : Store) (h : GrownB (st (lv, d)) e vs) :
    appendTo P lv d st e (grown e (lv, d) n) new = some (grown e (lv, d) (n + 1), upd st (lv, d) ⟨n + 1, e, vs ++ new, true⟩) := by
  cases n with
  | zero =>
    have hv : vs = [] := List.eq_nil_of_length_eq_zero hn
    subst hv
    have := h.1 rfl
    simp only [grown, appendTo, h1, newBlk, this]
    rw [if_pos ⟨trivial, by simpa using hm⟩]
    simp
  | succ n =>
    have hv : vs ≠ [] := by intro e; subst e; simp at hn
    have := h.2 hv
    simp only [grown, appendTo, this]
    rw [if_pos ⟨hn, trivial, trivial, trivial, hn.symm, trivial, by rw [h1]; exact hb, by rw [h1]; exact hm⟩, h1]
/-- An append to a row that another append made. -/
theorem appendTo_k {P : Program} {lv : Nat} {d : Tmp} {e : TypeId} {k : Key} {vs new : List V} {n : Nat} (hn : vs.length = n) (h0 : n = 0 → k = (lv, d)) (h1 : new.length = 1) (hb : n + 1 ≤ maxRow) (hm : (n + 1) * P.bytesOf e ≤ maxRow) (st : Store) (h : GrownB (st k) e vs) :
    appendTo P lv d st e (grown e k n) new = some (grown e k (n + 1), upd st k ⟨n + 1, e, vs ++ new, true⟩) := by
  cases n with
  | zero => have := h0 rfl; subst this; exact appendTo_g hn h1 hb hm st h
  | succ n =>
    have hv : vs ≠ [] := by intro e; subst e; simp at hn
    have := h.2 hv
    simp only [grown, appendTo, this]
    rw [if_pos ⟨hn, trivial, trivial, trivial, hn.symm, trivial, by rw [h1]; exact hb, by rw [h1]; exact hm⟩, h1]
theorem appendTo_nils (P : Program) (lv : Nat) (d : Tmp) (st : Store) (e e2 : TypeId) (new : List V) : appendTo P lv d st e (.nils e2) new = if e2 = e ∧ new.length * P.bytesOf e ≤ maxRow then some (.rs e (lv, d) ((st (lv, d)).ver + 1) 0 new.length true, newBlk st (lv, d) e new) else none := nr rfl
theorem appendTo_rs (P : Program) (lv : Nat) (d : Tmp) (st : Store) (e er : TypeId) (k : Key) (ver off len : Nat) (full : Bool) (new : List V) : appendTo P lv d st e (.rs er k ver off len full) new = if (st k).ver = ver ∧ (st k).live = true ∧ er = e ∧ off = 0 ∧ len = (st k).vs.length ∧ full = true ∧ len + new.length ≤ maxRow ∧ (len + new.length) * P.bytesOf e ≤ maxRow then
    some (.rs e k (ver + 1) 0 (len + new.length) true, upd st k ⟨ver + 1, e, (st k).vs ++ new, true⟩) else none := nr rfl
theorem GrownB_put (e : TypeId) (vs : List V) (n : Nat) (hn : vs.length = n + 1) : GrownB ⟨n + 1, e, vs, true⟩ e vs := ⟨fun h => by subst h; simp at hn, fun _ => by rw [hn]⟩
theorem GrownB_0 {b : Blk} (e : TypeId) (h : b.ver = 0) : GrownB b e [] := ⟨fun _ => h, fun h => absurd rfl h⟩
theorem elems_grown {st : Store} {e : TypeId} {k : Key} {vs : List V} {n : Nat} (hn : vs.length = n) (h : GrownB (st k) e vs) : elemsOf st (grown e k n) = some (e, vs) := by
  cases n with
  | zero => have hv : vs = [] := List.eq_nil_of_length_eq_zero hn; subst hv; rfl
  | succ n =>
    have hv : vs ≠ [] := by intro e; subst e; simp at hn
    simp only [grown, elemsOf, h.2 hv]
    rw [if_pos ⟨hn, trivial, by omega⟩, List.drop_zero, List.take_of_length_le (by omega)]
theorem fin_grown {st : Store} {e : TypeId} {k : Key} {vs : List V} {n m : Nat} (hn : vs.length = n) (h : GrownB (st k) e vs) : V.fin st (m + 1) (grown e k n) = (mapO (V.fin st m) vs).map (D.sl e) := by
  have he := elems_grown hn h
  cases n with
  | zero => have hv : vs = [] := List.eq_nil_of_length_eq_zero hn; subst hv; rfl
  | succ n =>
    simp only [grown] at he ⊢
    rw [fin_rs, he]; rfl
theorem view_grown {st : Store} {e : TypeId} {k : Key} {vs : List V} {n : Nat} (hn : vs.length = n) (h : GrownB (st k) e vs) : V.arg st (grown e k n) = (V.toD.V.toDs vs).map (D.sl e) := by
  have he := elems_grown hn h
  cases n with
  | zero => have hv : vs = [] := List.eq_nil_of_length_eq_zero hn; subst hv; rfl
  | succ n =>
    simp only [grown] at he ⊢
    rw [argv_rs]
    simp only [V.view, he]
theorem consV_d (x : D) (vs : List V) : consV (.d x) vs = some (.d x :: vs) := nr rfl
theorem consV_agg (t : TypeId) (xs : List V) (vs : List V) : consV (.agg t xs) vs = some (.agg t xs :: vs) := nr rfl
theorem consV_p (k : Key) (ver i : Nat) (path : List (TypeId × Nat)) (vs : List V) : consV (.p k ver i path) vs = some (.p k ver i path :: vs) := nr rfl
theorem consV_rs (er : TypeId) (k : Key) (ver off len : Nat) (full : Bool) (vs : List V) : consV (.rs er k ver off len full) vs = some (.rs er k ver off len full :: vs) := nr rfl
theorem consV_nils (e : TypeId) (vs : List V) : consV (.nils e) vs = some (.nils e :: vs) := nr rfl
theorem consV_fn (f : FuncId) (c : List V) (vs : List V) : consV (.fn f c) vs = some (.fn f c :: vs) := nr rfl
theorem consV_und (vs : List V) : consV .und vs = some (.und :: vs) := nr rfl
theorem consV_jk (vs : List V) : consV .jk vs = some (.jk :: vs) := nr rfl
theorem consV_grown (e : TypeId) (k : Key) (n : Nat) (vs : List V) : consV (grown e k n) vs = some (grown e k n :: vs) := by cases n <;> rfl
theorem topR_grown (st : Store) (e : TypeId) (k : Key) (n : Nat) : topR (some (grown e k n, st)) = oneL (V.fin st 9 (grown e k n)) := by cases n <;> rfl
theorem hasT_grown {P : Program} {t e : TypeId} {x : TypeId} {k : Key} {n : Nat} (h : tk P t = .sl x) : hasT P t (grown e k n) = true := by cases n <;> simp [hasT, grown, h]
theorem len_grown (e : TypeId) (k : Key) (n : Nat) : lenV (grown e k n) = some n := by cases n <;> rfl
theorem consV_mp (k : Key) (ver : Nat) (vs : List V) : consV (.mp k ver) vs = some (.mp k ver :: vs) := nr rfl
/-! ### maps -/
theorem sameK_i (k : IntKind) (a b : Int) : sameK (.int k a) (.int k b) = some (decide (a = b)) := by simp [sameK]
theorem sameK_s (a b : ByteArray) : sameK (.str a) (.str b) = some (decide (a = b)) := nr rfl
theorem mget_0 (x : D) : mget [] x = some none := nr rfl
theorem mget_hit (q x : D) (v : V) (r : List V) (h : sameK x q = some true) : mget (.d q :: v :: r) x = some (some v) := by simp [mget, h]
theorem mget_miss (q x : D) (v : V) (r : List V) (h : sameK x q = some false) : mget (.d q :: v :: r) x = mget r x := by simp [mget, h]
theorem mput_0 (x : D) (v : V) : mput [] x v = some [.d x, v] := nr rfl
theorem mput_hit (q x : D) (u v : V) (r : List V) (h : sameK x q = some true) : mput (.d q :: u :: r) x v = some (.d q :: v :: r) := by simp [mput, h]
theorem mput_miss (q x : D) (u v : V) (r : List V) (h : sameK x q = some false) : mput (.d q :: u :: r) x v = consP (.d q) u (mput r x v) := by simp [mput, h]
/-- All keys are whole numbers of a kind. -/
def keysI (k : IntKind) : List V → Prop
  | [] => True
  | [_] => False
  | q :: _ :: r => (∃ n, q = .d (.int k n)) ∧ keysI k r
theorem keysI_get {k : IntKind} {n : Int} : ∀ {m : List V}, keysI k m → ∃ r, mget m (.int k n) = some r
  | [], _ => ⟨none, rfl⟩
  | [_], h => h.elim
  | _ :: v :: r, ⟨⟨q, hq⟩, h2⟩ => by
    subst hq
    by_cases hn : n = q
    · exact ⟨_, mget_hit _ _ _ _ (by simp [sameK_i, hn])⟩
    · obtain ⟨x, hx⟩ := keysI_get (n := n) h2
      exact ⟨x, by rw [mget_miss _ _ _ _ (by simp [sameK_i, hn])]; exact hx⟩
theorem keysI_put {k : IntKind} {n : Int} {v : V} : ∀ {m : List V}, keysI k m → ∃ m', mput m (.int k n) v = some m' ∧ keysI k m' ∧ ∀ j, mget m' (.int k j) = if j = n then some (some v) else mget m (.int k j)
  | [], _ => ⟨[.d (.int k n), v], rfl, ⟨⟨n, rfl⟩, trivial⟩, fun j => by
      by_cases hj : j = n
      · rw [if_pos hj]; exact mget_hit _ _ _ _ (by simp [sameK_i, hj])
      · rw [if_neg hj, mget_miss _ _ _ _ (by simp [sameK_i, hj])]⟩
  | [_], h => h.elim
  | _ :: u :: r, ⟨⟨q, hq⟩, h2⟩ => by
    subst hq
    by_cases hn : n = q
    · subst hn
      refine ⟨_, mput_hit _ _ _ _ _ (by simp [sameK_i]), ⟨⟨_, rfl⟩, h2⟩, fun j => ?_⟩
      by_cases hj : j = n
      · rw [if_pos hj]; exact mget_hit _ _ _ _ (by simp [sameK_i, hj])
      · rw [if_neg hj, mget_miss _ _ _ _ (by simp [sameK_i, hj]), mget_miss _ _ _ _ (by simp [sameK_i, hj])]
    · obtain ⟨m', h3, h4, h5⟩ := keysI_put (n := n) (v := v) h2
      refine ⟨.d (.int k q) :: u :: m', (mput_miss _ _ _ _ _ (by simp [sameK_i, hn])).trans (by rw [h3]; rfl), ⟨⟨_, rfl⟩, h4⟩, fun j => ?_⟩
      by_cases hq2 : j = q
      · subst hq2
        rw [if_neg (fun e => hn e.symm), mget_hit _ _ _ _ (by simp [sameK_i]), mget_hit _ _ _ _ (by simp [sameK_i])]
      · rw [mget_miss _ _ _ _ (by simp [sameK_i, hq2]), mget_miss _ _ _ _ (by simp [sameK_i, hq2]), h5]
theorem elemT_grown (e : TypeId) (k : Key) (n : Nat) (h : 0 < n) : elemT (grown e k n) = some e := by cases n <;> simp_all [grown, elemT]
end Go.Ev
end
