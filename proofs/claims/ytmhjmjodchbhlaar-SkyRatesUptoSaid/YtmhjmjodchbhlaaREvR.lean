/- The evaluator's steps, as rewriting rules. -/
import Derived.Test.YtmhjmjodchbhlaaREvA
set_option linter.unusedVariables false
set_option linter.unusedSimpArgs false
set_option linter.unusedSectionVars false
namespace Go.Ev
/-! ### the steps of a run, each when its turn comes -/
section
variable (P : Program) (Γ : Specs) (call : Caller) (L : Nat) (ms : Masks) (lv : Nat) (ops : List Oper) (env : List V) (st : Store)
def guardV (j : Nat) : V := match dstAt ops j with | some t => V.get env t | none => .und
def runG (dst : Option Tmp) (op : Op) (ty : TypeId) (r : List Oper) : Unit → Option (List V × Store) := fun _ => thenO (putR env dst (evOp P Γ call lv dst ty env st op)) (evOps P Γ call lv ops r)
def skipG (dst : Option Tmp) (r : List Oper) : Unit → Option (List V × Store) := fun _ => evOps P Γ call lv ops r (putD env dst (.tup [])) st
def condL (v : V) (want : Bool) (a b : Unit → Option (List V × Store)) : Option (List V × Store) := condR v want (a ()) (b ())
theorem evOps_nil : evOps P Γ call lv ops [] env st = some (env, st) := nr rfl
theorem evOps_plain (dst : Option Tmp) (op : Op) (ty : TypeId) (pos : String) (after : Array Edge) (r : List Oper) :
    evOps P Γ call lv ops (⟨dst, op, ty, pos, after, none⟩ :: r) env st = thenO (putR env dst (evOp P Γ call lv dst ty env st op)) (evOps P Γ call lv ops r) := nr rfl
theorem evOps_guard (dst : Option Tmp) (op : Op) (ty : TypeId) (pos : String) (after : Array Edge) (j : Nat) (want : Bool) (r : List Oper) :
    evOps P Γ call lv ops (⟨dst, op, ty, pos, after, some (j, want)⟩ :: r) env st = condL (guardV ops env j) want (runG P Γ call lv ops env st dst op ty r) (skipG P Γ call lv ops env st dst r) := by
  simp only [evOps, condL, guardV, runG, skipG]
  cases dstAt ops j <;> rfl
theorem runG_eq (dst : Option Tmp) (op : Op) (ty : TypeId) (r : List Oper) : runG P Γ call lv ops env st dst op ty r () = thenO (putR env dst (evOp P Γ call lv dst ty env st op)) (evOps P Γ call lv ops r) := nr rfl
theorem skipG_eq (dst : Option Tmp) (r : List Oper) : skipG P Γ call lv ops env st dst r () = evOps P Γ call lv ops r (putD env dst (.tup [])) st := nr rfl
theorem condL_tt (a b : Unit → Option (List V × Store)) : condL (.d (.bool true)) true a b = a () := nr rfl
theorem condL_ff (a b : Unit → Option (List V × Store)) : condL (.d (.bool false)) false a b = a () := nr rfl
theorem condL_tf (a b : Unit → Option (List V × Store)) : condL (.d (.bool true)) false a b = b () := nr rfl
theorem condL_ft (a b : Unit → Option (List V × Store)) : condL (.d (.bool false)) true a b = b () := nr rfl
theorem condL_u (w : Bool) (a b : Unit → Option (List V × Store)) : condL (.tup []) w a b = b () := nr rfl
def condC (v : V) (a b : Run) (env : List V) (st : Store) : Out := match v with
  | .d (.bool q) => if q = true then a env st else b env st
  | _ => none
theorem condC_t (a b : Run) : condC (.d (.bool true)) a b env st = a env st := nr rfl
theorem condC_f (a b : Run) : condC (.d (.bool false)) a b env st = b env st := nr rfl
theorem evC_skip (i : Nat) : evC P Γ call L ms lv i .skip env st = some (.normal, env, st) := nr rfl
theorem evC_ret (i : Nat) : evC P Γ call L ms lv i .ret env st = some (.ret, mask (maskOf ms 1000000) env, st) := nr rfl
theorem evC_exit (i id : Nat) : evC P Γ call L ms lv i (.exit id) env st = some (.exit id, mask (maskOf ms (1000001 + id)) env, st) := nr rfl
theorem evC_label (i l : Nat) : evC P Γ call L ms lv i (.label l) env st = some (.normal, env, st) := nr rfl
theorem evC_region (i id : Nat) (l : List Oper) : evC P Γ call L ms lv i (.region id l.toArray false) env st = normR (evOps P Γ call lv l l env st) := nr rfl
theorem evC_draw (i id : Nat) (l : List Oper) : evC P Γ call L ms lv i (.region id l.toArray true) env st = normR (drawR ms id env (evOps P Γ (callOf ms id call) lv l l env st)) := nr rfl
theorem evC_seq (i : Nat) (a b : Code) : evC P Γ call L ms lv i (.seq a b) env st = seqR (evC P Γ call L ms lv i a env st) (evC P Γ call L ms lv i b) := nr rfl
theorem evC_cond (i : Nat) (c : Operand) (a b : Code) : evC P Γ call L ms lv i (.cond c a b) env st = condC (evalT P env 0 c) (evC P Γ call L ms lv i a) (evC P Γ call L ms lv i b) env st := nr rfl
theorem evC_block (i id : Nat) (a : Code) : evC P Γ call L ms lv i (.block id a) env st = blkR id (evC P Γ call L ms lv id a env st) := nr rfl
theorem evC_loop (i : Nat) (a : Code) : evC P Γ call L ms lv i (.loop a) env st = iter (evC P Γ call L ms lv i a) (maskOf ms i) L env st := nr rfl
theorem iter_wf {τ : Type} (f : Run) (m : List Bool) (I : τ → Prop) (hd : τ → List V) (s : τ → Store) (R : τ → Out) (μ : τ → Nat)
    (H : ∀ x, I x → ∀ k : Run, (∀ y env', I y → μ y < μ x → mask m env' = hd y → k env' (s y) = R y) → seqR (f (hd x) (s x)) k = R x) :
    ∀ n x env, I x → μ x < n → mask m env = hd x → iter f m n env (s x) = R x := by
  intro n
  induction n with
  | zero => intro x env _ h; omega
  | succ n ih =>
    intro x env hI hn he
    rw [iter, he]
    exact H x hI _ fun y env' h1 h2 h3 => ih y env' h1 (by omega) h3
theorem iter_rel {τ : Type} (f : Run) (m : List Bool) (I : τ → Prop) (hd : τ → List V) (s : τ → Store) (Q : τ → Out → Prop) (μ : τ → Nat)
    (H : ∀ x, I x → ∀ k : Run, (∀ y env', I y → μ y < μ x → mask m env' = hd y → Q y (k env' (s y))) → Q x (seqR (f (hd x) (s x)) k)) :
    ∀ n x env, I x → μ x < n → mask m env = hd x → Q x (iter f m n env (s x)) := by
  intro n
  induction n with
  | zero => intro x env _ h; omega
  | succ n ih =>
    intro x env hI hn he
    rw [iter, he]
    exact H x hI _ fun y env' h1 h2 h3 => ih y env' h1 (by omega) h3
theorem iter_s (f : Run) (m : List Bool) (n : Nat) : iter f m (n + 1) env st = seqR (f (mask m env) st) (iter f m n) := nr rfl
theorem evF_s (T : Table) (c : Nat) (f : FuncId) (xs : List V) (fn : Func) (msk : Masks) (code : Code) (hT : T f = some ⟨fn, msk⟩) (hb : fn.body = some code) :
    evF P Γ T L (c + 1) f xs lv st = outR P fn.results.toList (evC P Γ (evF P Γ T L c) L msk lv 0 code (pad xs fn.ntmps) st) := by
  simp only [evF, hT, hb]
end
def finS (st : Store) (n : Nat) : Option (TypeId × List V) → Option D
  | some (e, vs) => (mapO (V.fin st n) vs).map (D.sl e)
  | none => none
theorem fin_d (st : Store) (n : Nat) (x : D) : V.fin st (n + 1) (.d x) = some x := nr rfl
theorem fin_nils (st : Store) (n : Nat) (e : TypeId) : V.fin st (n + 1) (.nils e) = some (.sl e []) := nr rfl
theorem fin_agg_ (st : Store) (n : Nat) (t : TypeId) (vs : List V) : V.fin st (n + 1) (.agg t vs) = (mapO (V.fin st n) vs).map (D.agg t) := nr rfl
theorem fin_rs (st : Store) (n : Nat) (er : TypeId) (k : Key) (ver off len : Nat) (full : Bool) : V.fin st (n + 1) (.rs er k ver off len full) = finS st n (elemsOf st (.rs er k ver off len full)) := nr rfl
theorem finS_s (st : Store) (n : Nat) (e : TypeId) (vs : List V) : finS st n (some (e, vs)) = (mapO (V.fin st n) vs).map (D.sl e) := nr rfl
theorem mapO_fin {α : Type} (st : Store) (n : Nat) (g : α → D) : ∀ l : List α, mapO (V.fin st (n + 1)) (l.map fun x => V.d (g x)) = some (l.map g)
  | [] => rfl
  | x :: r => by simp only [List.map_cons, mapO, fin_d, mapO_fin st n g r]
theorem upd_upd (st : Store) (k : Key) (a b : Blk) : upd (upd st k a) k b = upd st k b := by funext j; unfold upd; cases keq j k <;> rfl
/-- The bodies of a function's loops, the outer ones first. -/
def loops : Code → List Code
  | .loop b => b :: loops b
  | .seq a b => loops a ++ loops b
  | .cond _ a b => loops a ++ loops b
  | .block _ a => loops a
  | _ => []
def loopN (fn : Func) (n : Nat) : Code := match fn.body with
  | some c => match nth (loops c) n with
    | some b => b
    | none => .skip
  | none => .skip
theorem argv_d (st : Store) (x : D) : V.arg st (.d x) = some x := nr rfl
theorem argv_nils (st : Store) (e : TypeId) : V.arg st (.nils e) = some (.sl e []) := nr rfl
theorem argv_agg (st : Store) (t : TypeId) (vs : List V) : V.arg st (.agg t vs) = V.view st (.agg t vs) := nr rfl
theorem argv_rs (st : Store) (er : TypeId) (k : Key) (ver off len : Nat) (full : Bool) : V.arg st (.rs er k ver off len full) = V.view st (.rs er k ver off len full) := nr rfl
def argP (st : Store) (v : Option V) (path : List (TypeId × Nat)) : Option D := match v with
  | some v => match getPath v path with
    | some x => (V.view st x).map D.ptr
    | none => none
  | none => none
theorem argv_p (st : Store) (k : Key) (ver i : Nat) (path : List (TypeId × Nat)) : V.arg st (.p k ver i path) = if (st k).ver = ver ∧ (st k).live = true then argP st (nth (st k).vs i) path else none := nr rfl
/-- Functions to be entered, by number. -/
def tableOf (l : List (FuncId × Entry)) : Table := fun f => match l with
  | [] => none
  | (g, e) :: r => if f = g then some e else tableOf r f
end Go.Ev
