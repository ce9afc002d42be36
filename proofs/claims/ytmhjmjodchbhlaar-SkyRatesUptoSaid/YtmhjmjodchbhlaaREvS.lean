/- Typed values as plain data, and contracts over them. -/
import Derived.Test.YtmhjmjodchbhlaaREvP
set_option linter.unusedVariables false
set_option linter.unusedSimpArgs false
namespace Go.Ev
/-- How a value of Lean's stands as plain data. -/
structure Cod (α : Type) where
  e : α → D
  inj : ∀ x y, e x = e y → x = y
structure CodL (α : Type) where
  e : α → List D
  inj : ∀ x y, e x = e y → x = y
def cI (k : IntKind) : Cod Int := ⟨D.int k, fun x y h => by cases h; rfl⟩
def cB : Cod Bool := ⟨D.bool, fun x y h => by cases h; rfl⟩
def cS : Cod ByteArray := ⟨D.str, fun x y h => by cases h; rfl⟩
theorem map_inj' {α : Type} {f : α → D} (hf : ∀ x y, f x = f y → x = y) : ∀ {l l' : List α}, l.map f = l'.map f → l = l'
  | [], [], _ => rfl
  | [], _ :: _, h => by cases h
  | _ :: _, [], h => by cases h
  | x :: l, y :: l', h => by
    simp only [List.map_cons, List.cons.injEq] at h
    rw [hf _ _ h.1, map_inj' hf h.2]
def cL {α : Type} (t : TypeId) (c : Cod α) : Cod (List α) := ⟨fun l => .sl t (l.map c.e), fun x y h => by
  simp only [D.sl.injEq, true_and] at h
  exact map_inj' c.inj h⟩
def cA {α : Type} (t : TypeId) (c : CodL α) : Cod α := ⟨fun x => .agg t (c.e x), fun x y h => by
  simp only [D.agg.injEq, true_and] at h
  exact c.inj _ _ h⟩
def cNil : CodL Unit := ⟨fun _ => [], fun _ _ _ => rfl⟩
def cOne {α : Type} (c : Cod α) : CodL α := ⟨fun x => [c.e x], fun x y h => by
  simp only [List.cons.injEq, and_true] at h
  exact c.inj _ _ h⟩
def cCons {α β : Type} (c : Cod α) (r : CodL β) : CodL (α × β) := ⟨fun x => c.e x.1 :: r.e x.2, fun x y h => by
  simp only [List.cons.injEq] at h
  exact Prod.ext (c.inj _ _ h.1) (r.inj _ _ h.2)⟩
def cIso {α β : Type} (f : β → α) (hf : ∀ x y, f x = f y → x = y) (c : Cod α) : Cod β := ⟨fun y => c.e (f y), fun x y h => hf _ _ (c.inj _ _ h)⟩
noncomputable def specC {α : Type} (c : CodL α) (pre : α → Prop) (out : α → List D) : Spec := mkSpec c.e pre out
theorem specC_run {α : Type} (c : CodL α) (pre : α → Prop) (out : α → List D) (x : α) (hp : pre x) : (specC c pre out).run (c.e x) = some (out x) := mkSpec_run c.inj x hp
theorem specC_ok {P : Program} {Γ : Specs} {T : Table} {f : FuncId} {α : Type} {c : CodL α} {pre : α → Prop} {out : α → List D} (hm : P.follows .mixedOrders = true) (hΓ : ∀ g s, look Γ g = some s → SpecOk P g s) (hT : TableOk P (Γ.map (·.1)) T)
    (h : ∀ x, pre x → ∃ L n, evTop P Γ T L n f (c.e x) = some (out x)) : SpecOk P f (specC c pre out) := spec_of hm hΓ hT h
theorem SpecOk.weak {P : Program} {f : FuncId} {s s' : Spec} (h : SpecOk P f s) (hr : ∀ xs rs, s'.run xs = some rs → s.run xs = some rs) : SpecOk P f s' :=
  fun xs rs S w vals hrun => h xs rs S w vals (hr xs rs hrun)
end Go.Ev
