/- Parts of one proof, joined: EvX, EvW, CloneP, E41, G193, G125, G45, G41, E42, E46, E128. -/
import Derived.Test.YtnojehmbiceceaaMCatalogRows7
import Derived.Sort.Row
import Derived.Sort.Grow
import Derived.Test.YtnojehmbiceceaaProg
import Derived.WalkKit
import Derived.Lib.SliceRun
section
set_option linter.unusedVariables false
set_option linter.unusedSimpArgs false
namespace Go.Ev
open Go.RowKit
section
variable {P : Program} {Γ : Specs} {L : Nat}
/-- A function of the table, whose calls go to the caller given. -/
def evB (P : Program) (Γ : Specs) (T : Table) (L : Nat) (base : Caller) : Caller := fun f xs lv st => match T f with
  | some en => match en.fn.body with
    | some code => outR P en.fn.results.toList (evC P Γ base L en.ms lv 0 code (pad xs en.fn.ntmps) st)
    | none => none
  | none => none
theorem evB_s {T : Table} {base : Caller} (f : FuncId) (xs : List V) (lv : Nat) (st : Store) (fn : Func) (msk : Masks) (code : Code) (hT : T f = some ⟨fn, msk⟩) (hb : fn.body = some code) :
    evB P Γ T L base f xs lv st = outR P fn.results.toList (evC P Γ base L msk lv 0 code (pad xs fn.ntmps) st) := by simp [evB, hT, hb]
theorem evB_sound {T : Table} {base : Caller} (hm : P.follows .mixedOrders = true) (hΓ : ∀ g s, look Γ g = some s → SpecOk P g s) (hT : TableOk P (Γ.map (·.1)) T) (hbase : CallerOk P base) : CallerOk P (evB P Γ T L base) := by
  intro f xs lv st v st' h B0 S σ w vals hI hx
  simp only [evB] at h
  split at h
  · rename_i en hen
    split at h
    · rename_i code hcode
      obtain ⟨t1, t2, t3⟩ := hT f en hen
      refine .inl ⟨en.fn, t1, t2, by rw [hcode]; rfl, ?_⟩
      refine calls_of_wp t1 hcode ?_
      cases hr : evC P Γ base L en.ms lv 0 code (pad xs en.fn.ntmps) st with
      | none => rw [hr] at h; cases h
      | some q =>
        obtain ⟨x, env', s⟩ := q
        rw [hr] at h
        have hout : x ≠ .normal → x = .ret ∨ ∃ i, x = .exit i := by cases x <;> simp
        have hres : (x = .ret ∨ x = .normal) ∧ ∃ vs, resV P s env' en.fn.results.toList = some vs ∧ v = retV vs ∧ st' = s := by
          cases x with
          | exit i => cases h
          | normal =>
            simp only [outR] at h
            cases hq : resV P s env' en.fn.results.toList with
            | none => rw [hq] at h; cases h
            | some vs => rw [hq] at h; cases h; exact ⟨.inr rfl, vs, rfl, rfl, rfl⟩
          | ret =>
            simp only [outR] at h
            cases hq : resV P s env' en.fn.results.toList with
            | none => rw [hq] at h; cases h
            | some vs => rw [hq] at h; cases h; exact ⟨.inl rfl, vs, rfl, rfl, rfl⟩
        obtain ⟨hx', vs, hvs, rfl, rfl⟩ := hres
        refine code_sound hm hΓ hbase code 0 (t3 code hcode) _ st x env' st' hr S σ w _ _ hI ?_ rfl ?_
        · have hlen := relNs_length hx
          refine ⟨by rw [pad_length]; simp [hlen] <;> omega, fun i => ?_⟩
          rw [pad_get]
          have := relNs_get i hx
          by_cases hi : i < vals.length
          · have e : (vals.toArray ++ Array.replicate (en.fn.ntmps - vals.toArray.size) undef).getD i undef = (vals[i]?).getD undef := by
              simp [Array.getD_eq_getD_getElem?, Array.getElem?_append, hi]
            rw [e]; exact this
          · have : V.get xs i = .und := by rw [get_eq]; simp [List.getD, List.getElem?_eq_none (show xs.length ≤ i by omega)]
            rw [this]; exact und_rel _
        · intro S' σ' w' a' q1 q2 q3 q4 q5
          obtain ⟨val, r1, r2⟩ := results_sound q1 q4 hvs
          rcases hx' with rfl | rfl <;> exact ⟨q5, val, r1, val, rfl, S', σ', q1, q2, q3, r2⟩
    · cases h
  · cases h
/-- The contract of a function, off any caller that keeps what it says. -/
theorem call_of_caller {call : Caller} {f : FuncId} (hc : CallerOk P call) {xs rs : List D} (htop : topR (call f (xs.map V.d) 0 empty) = some rs)
    {S : Nat → Prop} {w : World} {vals : List Value} (hS : ∀ b, S b → b < w.heap.size) (hargs : ArgsOk P S w xs vals) : CallIn P f vals.toArray w fun val w' => Below w.heap.size w w' ∧ ResOk P (Plus S w w') w' rs val := by
  cases hq : call f (xs.map V.d) 0 empty with
  | none => rw [hq] at htop; cases htop
  | some q =>
    obtain ⟨v, st'⟩ := q
    rw [hq] at htop
    refine (hc f (xs.map V.d) 0 empty v st' hq w.heap.size S (fun _ => none) w vals (inv_empty hS) (hargs _ _)).mono ?_
    rintro val w' ⟨S', σ', h1, h2, h3, h4⟩
    refine ⟨h3, fun σ0 st0 => ?_⟩
    have hS1 : ∀ b, S' b → Plus S w w' b := fun b hb => (h2.less b hb).imp id (fun q => ⟨q, h1.safe b hb⟩)
    have hN1 : ∀ b, w.heap.size ≤ b → b < w'.heap.size → Plus S w w' b := fun b q1 q2 => .inr ⟨q1, q2⟩
    by_cases hv : ∃ vs, v = .tup vs
    · obtain ⟨vs, rfl⟩ := hv
      obtain ⟨vals', g1, g2⟩ := h4
      have hm1 : mapO (V.fin st' 9) vs = some rs ∧ vs.length ≠ 1 := by
        cases vs with
        | nil => exact ⟨htop, by simp⟩
        | cons x r => cases r with
          | nil => cases htop
          | cons y r => exact ⟨htop, by simp⟩
      have g3 := fin_relNs (σ' := σ0) (st' := st0) h1 hS1 hN1 hm1.1 g2
      have hl1 := relNs_length g3
      have hl2 := relNs_length g2
      have hr : retV (rs.map V.d) = .tup (rs.map V.d) := by
        cases hq : rs.map V.d with
        | nil => rfl
        | cons x r => cases r with
          | nil => rw [hq] at hl1; simp at hl1; omega
          | cons y r => rfl
      rw [hr]
      exact ⟨vals', g1, g3⟩
    · have hn : ∀ vs, v ≠ .tup vs := fun vs e => hv ⟨vs, e⟩
      have htop' : oneL (V.fin st' 9 v) = some rs := by
        cases v <;> first | exact htop | exact absurd rfl (hn _)
      cases hq2 : V.fin st' 9 v with
      | none => rw [hq2] at htop'; cases htop'
      | some x =>
        rw [hq2] at htop'
        cases htop'
        exact RelN.to_v (fin_relN h1 hS1 hN1 hq2 (h4.n hn))
theorem spec_of_caller {f : FuncId} {α : Type} {c : CodL α} {pre : α → Prop} {out : α → List D} (h : ∀ x, pre x → ∃ call : Caller, CallerOk P call ∧ topR (call f ((c.e x).map V.d) 0 empty) = some (out x)) : SpecOk P f (specC c pre out) := by
  intro xs rs S w vals hrun hS hargs
  obtain ⟨x, rfl, hp, rfl⟩ := mkSpec_inv hrun
  obtain ⟨call, hc, ht⟩ := h x hp
  exact call_of_caller hc ht hS hargs
/-! ### a row sorted in place -/
def ints : List V → Option (List Int)
  | [] => some []
  | .d (.int .i64 n) :: r => match ints r with
    | some ns => some (n :: ns)
    | none => none
  | _ :: _ => none
def sortI (ns : List Int) : List Int := ns.mergeSort fun x y => decide (x ≤ y)
def iV (ns : List Int) : List V := ns.map fun n => .d (.int .i64 n)
theorem ints_iV : ∀ ns : List Int, ints (iV ns) = some ns
  | [] => rfl
  | n :: ns => by
    have := ints_iV ns
    simp only [iV, List.map_cons, ints] at this ⊢
    rw [this]
theorem ints_inv : ∀ {vs : List V} {ns : List Int}, ints vs = some ns → vs = iV ns
  | [], ns, h => by cases h; rfl
  | v :: r, ns, h => by
    unfold ints at h
    split at h
    · rename_i h1; cases h1
    · rename_i n r' h1
      cases h1
      split at h
      · rename_i ns' h2
        cases h
        rw [ints_inv h2]; rfl
      · cases h
    · cases h
theorem rels_iV {S : Nat → Prop} {σ : Sig} {st : Store} {w : World} : ∀ (ns : List Int), RelC.rels P S σ st w (iV ns) (ns.map fun n => [.int .i64 n])
  | [] => rfl
  | n :: ns => ⟨_, _, rfl, rfl, rels_iV ns⟩
theorem rels_iV_inv {S : Nat → Prop} {σ : Sig} {st : Store} {w : World} : ∀ {ns : List Int} {css : List (List Value)}, RelC.rels P S σ st w (iV ns) css → css = ns.map fun n => [.int .i64 n]
  | [], css, h => h
  | n :: ns, css, h => by
    obtain ⟨c, r, rfl, h1, h2⟩ := h
    rw [rels_iV_inv h2, List.map_cons]
    congr 1
theorem flat_iV (ns : List Int) : (ns.map fun n => [Value.int .i64 n]).flatten = ns.map (Value.int .i64) := by
  induction ns with
  | nil => rfl
  | cons n ns ih => simp [ih]
def SortOk (P : Program) (g : FuncId) : Prop := (∃ fn, P.funcs[g]? = some fn ∧ (fn.name == "runtime.NumGoroutine") = false ∧ fn.body.isNone = false) ∧
  (∀ (blk off cap : Nat) (zs : List Int) (w : World), Go.Sort.Holds (Value.int .i64) w blk off zs.toArray → blk < w.heap.size → zs.length < 4611686018427387904 →
    Calls P g #[.slice (some ⟨blk, off, none⟩) zs.length cap] w fun e w' => e = .returned (.tuple #[]) ∧ ∃ n os, w' = Go.Sort.grow (Go.Sort.putRow (Value.int .i64) (Go.Sort.ahead w n) blk off (zs.mergeSort fun x y => decide (x ≤ y)).toArray) os) ∧
  ∀ (p : Option Addr) (cap : Nat) (w : World), Calls P g #[.slice p 0 cap] w fun e w' => e = .returned (.tuple #[]) ∧ w' = w
def sortC (P : Program) (g : FuncId) : Caller := fun f xs lv st => match xs with
  | [.nils _] => if f = g then some (.tup [], st) else none
  | [.rs e k ver off len full] => if f = g ∧ (st k).ver = ver ∧ (st k).live = true ∧ off = 0 ∧ len = (st k).vs.length ∧ 0 < len ∧ len < 4611686018427387904 ∧ szOf P (st k).e = 1 then match ints (st k).vs with
      | some ns => some (.tup [], upd st k ⟨ver, (st k).e, iV (sortI ns), true⟩)
      | none => none
    else none
  | _ => none
def ahd (w : World) (k : Nat) : World := { w with drawn := k }
theorem put_eq_set (w : World) (b n : Nat) (cur : Array Value) (e : TypeId) (d : Array Int) (hb : w.heap[b]? = some (.cells cur e (0, 0))) :
    Go.Sort.putRow (Value.int .i64) (Go.Sort.ahead w n) b 0 d = ahd (w.setRow b (Go.Sort.putCells (Value.int .i64) 0 d cur)) (w.drawn + n) := by
  unfold Go.Sort.putRow Go.Sort.mapBlock Go.Sort.ahead World.setRow ahd
  simp only
  congr 1
  apply Array.ext_getElem?
  intro k
  simp only [Array.getElem?_modify]
  by_cases hk : b = k
  · subst hk
    simp [hb, Go.Sort.onCells]
  · simp [hk]
theorem sortC_ok {g : FuncId} (h : SortOk P g) : CallerOk P (sortC P g) := by
  obtain ⟨⟨fn, f1, f2, f3⟩, hs, hn⟩ := h
  intro f xs lv st v st' h B0 S σ w vals hI hx
  unfold sortC at h
  split at h
  · rename_i e
    split at h
    · rename_i hfg
      subst hfg
      cases h
      obtain ⟨x, r, rfl, hx1, hr⟩ := hx
      obtain rfl : r = [] := hr
      have hx2 : RelC P S σ st w (.nils e) [x] := by
        rcases hx1 with h | ⟨h, _⟩ | ⟨_, h⟩
        · cases h
        · cases h
        · exact h
      have hx3 : [x] = [Value.slice none 0 0] := hx2
      cases hx3
      refine .inl ⟨fn, f1, f2, f3, (hn none 0 w).mono ?_⟩
      rintro e' w' ⟨rfl, rfl⟩
      exact ⟨_, rfl, S, σ, hI, Evo.refl _ _ _ _, Below.refl _ _, [], rfl, rfl⟩
    · cases h
  · rename_i e k ver off len full
    split at h
    · rename_i hc
      obtain ⟨rfl, hver, hlive, hoff, hlen, hpos, hlt, hsz⟩ := hc
      split at h
      · rename_i ns hns
        cases h
        have hvs := ints_inv hns
        obtain ⟨x, r, rfl, hx1, hr⟩ := hx
        obtain rfl : r = [] := hr
        have hx2 : RelC P S σ st w (.rs e k ver off len full) [x] := by
          rcases hx1 with h | ⟨h, _⟩ | ⟨_, h⟩
          · cases h
          · cases h
          · exact h
        obtain ⟨A, c, hA, hlc, _, _, hrest⟩ := hx2
        cases hA
        obtain ⟨_, _, _, hplace⟩ := hrest hver.symm hlive
        have hnl : ns.length = len := by rw [hlen, hvs]; simp [iV]
        obtain ⟨hnone, hsome⟩ := (hI.own k hlive).row (by omega)
        cases hσ : σ k with
        | none =>
          have := hnone hσ
          rw [hlen, this] at hpos
          simp at hpos
        | some bc =>
          obtain ⟨b, cap⟩ := bc
          obtain ⟨p1, p2, p3⟩ := hplace b cap hσ
          obtain ⟨g1, g2, g3, cur, css, g4, g5, g6, g7, g8, g9, g10⟩ := hsome b cap hσ
          have hA : A = some ⟨b, 0, none⟩ := by
            rcases p1 with h0 | h0
            · omega
            · rw [h0, hoff]; simp
          subst hA
          rw [hvs] at g10
          have hcss := rels_iV_inv g10
          rw [hcss, flat_iV, hsz, Nat.mul_one, ← hlen] at g8
          rw [hsz, Nat.mul_one] at g5
          have hcell : ∀ j, j < ns.length → cur[j]? = some (.int .i64 ns[j]!) := by
            intro j hj
            have h1 := cell_of_take (cur := cur) (N := len) g8 (j := j) (by simpa using hj)
            rw [h1]
            simp [List.getElem?_map, List.getElem?_eq_getElem hj, getElem!_pos ns j hj]
          have hH : Go.Sort.Holds (Value.int .i64) w b 0 ns.toArray := by
            intro j hj
            have hj' : j < ns.length := by simpa using hj
            refine ⟨?_, frozen_of_row w b (0 + j) cur _ g4⟩
            rw [cell_of_row w b (0 + j) cur _ _ g4, Nat.zero_add, hcell j hj']
            simp [getElem!_pos, hj']
          refine .inl ⟨fn, f1, f2, f3, ?_⟩
          have hcall := hs b 0 c ns w hH g2 (by omega)
          rw [hnl] at hcall
          refine hcall.mono ?_
          rintro e' w' ⟨rfl, n, os, rfl⟩
          have hsl : (sortI ns).length = ns.length := by simp [sortI]
          rw [put_eq_set w b n cur _ _ g4, show ns.mergeSort (fun x y => decide (x ≤ y)) = sortI ns from rfl]
          have hrow := setRow_ok (k := k) (vs' := iV (sortI ns)) (css' := (sortI ns).map fun n => [.int .i64 n]) (cur' := Go.Sort.putCells (Value.int .i64) 0 (sortI ns).toArray cur) (b := b) (cap := cap) (v' := ver) hI (by omega) hlive hσ (by omega)
            (rels_iV _) (fun c hc => by obtain ⟨m, _, rfl⟩ := List.mem_map.1 hc; simp [hsz]) (by simp [Go.Sort.putCells, hsz, g5]) (by rw [hvs] at g6; simp [iV] at g6 ⊢; omega) (by
              rw [flat_iV, hsz, Nat.mul_one]
              apply List.ext_getElem?
              intro j
              simp only [iV, List.length_map, hsl]
              by_cases hj : j < ns.length
              · have hcj := hcell j hj
                rw [List.getElem?_take_of_lt hj, Array.getElem?_toList, Go.Sort.putCells, Array.getElem?_mapIdx, hcj]
                simp [hsl, hj, getElem!_pos]
              · rw [List.getElem?_eq_none (by simp; omega), List.getElem?_eq_none (by simp [hsl]; omega)])
          obtain ⟨i1, i2, i3⟩ := hrow
          generalize hw1 : w.setRow b (Go.Sort.putCells (Value.int .i64) 0 (sortI ns).toArray cur) = w1 at *
          have hb : Below w1.heap.size w1 (Go.Sort.grow (ahd w1 (w.drawn + n)) os) :=
            ⟨rfl, rfl, rfl, by simp [Go.Sort.grow, ahd], fun j hj => by simp [Go.Sort.grow, ahd, Array.getElem?_append, hj]⟩
          obtain ⟨j1, j2, j3⟩ := after_spec i1 hb
          exact ⟨_, rfl, _, _, j1, i2.trans j2, i3.trans j3, [], rfl, rfl⟩
      · cases h
    · cases h
  · cases h
end
end Go.Ev
end
section
set_option linter.unusedVariables false
set_option linter.unusedSimpArgs false
namespace Go.Ev
open Go.RowKit
section
variable {P : Program} {Γ : Specs} {L : Nat}
def evFB (P : Program) (Γ : Specs) (T : Table) (L : Nat) (base : Caller) : Nat → Caller
  | 0 => base
  | c + 1 => fun f xs lv st => match base f xs lv st with
    | some r => some r
    | none => evB P Γ T L (evFB P Γ T L base c) f xs lv st
theorem evFB_i {T : Table} {base : Caller} {c : Nat} (f : FuncId) (xs : List V) (lv : Nat) (st : Store) : evFB P Γ T L base (c + 1) f xs lv st = (match base f xs lv st with | some r => some r | none => evB P Γ T L (evFB P Γ T L base c) f xs lv st) := rfl
theorem evFB_s {T : Table} {base : Caller} {c : Nat} (f : FuncId) (xs : List V) (lv : Nat) (st : Store) (fn : Func) (msk : Masks) (code : Code) (hB : base f xs lv st = none) (hT : T f = some ⟨fn, msk⟩) (hb : fn.body = some code) :
    evFB P Γ T L base (c + 1) f xs lv st = outR P fn.results.toList (evC P Γ (evFB P Γ T L base c) L msk lv 0 code (pad xs fn.ntmps) st) := by
  rw [evFB_i, hB]
  exact evB_s f xs lv st fn msk code hT hb
theorem evFB_b {T : Table} {base : Caller} {c : Nat} (f : FuncId) (xs : List V) (lv : Nat) (st : Store) (hT : T f = none) : evFB P Γ T L base c f xs lv st = base f xs lv st := by
  cases c with
  | zero => rfl
  | succ c =>
    rw [evFB_i]
    cases h : base f xs lv st with
    | some r => rfl
    | none => simp only [evB, hT]
theorem evFB_sound {T : Table} {base : Caller} (hm : P.follows .mixedOrders = true) (hΓ : ∀ g s, look Γ g = some s → SpecOk P g s) (hT : TableOk P (Γ.map (·.1)) T) (hbase : CallerOk P base) : ∀ c, CallerOk P (evFB P Γ T L base c)
  | 0 => hbase
  | c + 1 => by
    intro f xs lv st v st' h
    rw [evFB_i] at h
    split at h
    · rename_i r hr
      cases h
      exact hbase f xs lv st v st' hr
    · exact evB_sound hm hΓ hT (evFB_sound hm hΓ hT hbase c) f xs lv st v st' h
def evTopB (P : Program) (Γ : Specs) (T : Table) (L : Nat) (base : Caller) (c : Nat) (f : FuncId) (xs : List D) : Option (List D) := topR (evFB P Γ T L base c f (xs.map V.d) 0 empty)
theorem spec_of_evB {T : Table} {base : Caller} {f : FuncId} {s : Spec} (hm : P.follows .mixedOrders = true) (hΓ : ∀ g s, look Γ g = some s → SpecOk P g s) (hT : TableOk P (Γ.map (·.1)) T) (hbase : CallerOk P base)
    (h : ∀ xs rs, s.run xs = some rs → ∃ L c, evTopB P Γ T L base c f xs = some rs) : SpecOk P f s := by
  intro xs rs S w vals hrun hS hargs
  obtain ⟨L, c, ht⟩ := h xs rs hrun
  exact call_of_caller (evFB_sound hm hΓ hT hbase c) ht hS hargs
theorem specK_okB {T : Table} {base : Caller} {f : FuncId} {α β : Type} {c : CodL α} (d : DecL c) {p : α → Option β} {res : β → List D} (hm : P.follows .mixedOrders = true) (hΓ : ∀ g s, look Γ g = some s → SpecOk P g s) (hT : TableOk P (Γ.map (·.1)) T) (hbase : CallerOk P base)
    (h : ∀ x r, p x = some r → ∃ L n, evTopB P Γ T L base n f (c.e x) = some (res r)) : SpecOk P f (specK d p res) := spec_of_evB hm hΓ hT hbase fun xs rs hr => by
  simp only [specK] at hr
  split at hr
  · rename_i x hx
    split at hr
    · rename_i r hp
      cases hr
      rw [← d.ok _ _ hx]
      exact h x r hp
    · cases hr
  · cases hr
theorem specP_okB {T : Table} {base : Caller} {f : FuncId} {α β : Type} {c : CodL α} {p : α → Option β} {res : β → List D} (hm : P.follows .mixedOrders = true) (hΓ : ∀ g s, look Γ g = some s → SpecOk P g s) (hT : TableOk P (Γ.map (·.1)) T) (hbase : CallerOk P base)
    (h : ∀ x r, p x = some r → ∃ L n, evTopB P Γ T L base n f (c.e x) = some (res r)) : SpecOk P f (specP c p res) := spec_of_caller fun x hp => by
  cases hx : p x with
  | none => rw [hx] at hp; cases hp
  | some r =>
    obtain ⟨L, n, ht⟩ := h x r hx
    exact ⟨_, evFB_sound hm hΓ hT hbase n, ht⟩
/-- Two callers beside each other. -/
def orC (a b : Caller) : Caller := fun f xs lv st => match a f xs lv st with
  | some r => some r
  | none => b f xs lv st
theorem orC_ok {a b : Caller} (ha : CallerOk P a) (hb : CallerOk P b) : CallerOk P (orC a b) := by
  intro f xs lv st v st' h
  unfold orC at h
  split at h
  · rename_i r hr
    cases h
    exact ha f xs lv st v st' hr
  · exact hb f xs lv st v st' h
def noC : Caller := fun _ _ _ _ => none
theorem noC_ok : CallerOk P noC := by
  intro f xs lv st v st' h
  cases h
/-! ### the keys of a map of numbers, sorted -/
def insI (x : Int) : List Int → List Int
  | [] => [x]
  | y :: r => if x ≤ y then x :: y :: r else y :: insI x r
def isort : List Int → List Int
  | [] => []
  | x :: r => insI x (isort r)
theorem insI_perm (x : Int) : ∀ l, (insI x l).Perm (x :: l)
  | [] => List.Perm.refl _
  | y :: r => by
    unfold insI
    split
    · exact List.Perm.refl _
    · exact ((insI_perm x r).cons y).trans (List.Perm.swap x y r)
theorem isort_perm : ∀ l, (isort l).Perm l
  | [] => List.Perm.refl _
  | x :: r => (insI_perm x (isort r)).trans ((isort_perm r).cons x)
theorem insI_sorted (x : Int) : ∀ l : List Int, l.Pairwise (· ≤ ·) → (insI x l).Pairwise (· ≤ ·)
  | [], _ => by simp [insI]
  | y :: r, h => by
    unfold insI
    rw [List.pairwise_cons] at h
    split
    · rename_i hc
      refine List.pairwise_cons.2 ⟨fun z hz => ?_, List.pairwise_cons.2 h⟩
      rcases List.mem_cons.1 hz with rfl | hz
      · exact hc
      · have := h.1 z hz; omega
    · rename_i hc
      refine List.pairwise_cons.2 ⟨fun z hz => ?_, insI_sorted x r h.2⟩
      rcases List.mem_cons.1 ((insI_perm x r).mem_iff.1 hz) with rfl | hz
      · omega
      · exact h.1 z hz
theorem isort_sorted : ∀ l, (isort l).Pairwise (· ≤ ·)
  | [] => List.Pairwise.nil
  | x :: r => insI_sorted x _ (isort_sorted r)
theorem isort_len (l : List Int) : (isort l).length = l.length := (isort_perm l).length_eq
def inI64 (n : Int) : Bool := decide (-9223372036854775808 ≤ n) && decide (n < 9223372036854775808)
def mkeys : List V → Option (List Int)
  | [] => some []
  | [_] => none
  | k :: _ :: r => match k with
    | .d (.int .i64 n) => match mkeys r with
      | some ns => some (n :: ns)
      | none => none
    | _ => none
def SortedOk (P : Program) (gs gk : FuncId) (e : TypeId) : Prop := (∃ fn, P.funcs[gs]? = some fn ∧ (fn.name == "runtime.NumGoroutine") = false ∧ fn.body.isNone = false) ∧
  (∀ (b r : Nat) (es : Array MapEntry) (clock : Nat) (ns : List Int) (w : World), w.cell? ⟨b, 0, none⟩ = some (.map (some r)) → w.heap[r]? = some (.map es clock) → MapKept.Stamped es clock →
    es.toList.map (·.key) = ns.map (Value.int .i64) → (∀ n ∈ ns, inI64 n = true) → ns.length * 8 ≤ 140737488355328 →
    Calls P gs #[.func (.func gk) #[] #[.pointer (some ⟨b, 0, none⟩)]] w fun ex w' => ∃ v, ex = .returned v ∧ w'.ownsRow w.heap.size e 1 v ns.length ((isort ns).map (Value.int .i64)) ∧ Below w.heap.size w w') ∧
  ∀ (b : Nat) (w : World), w.cell? ⟨b, 0, none⟩ = some (.map none) → Calls P gs #[.func (.func gk) #[] #[.pointer (some ⟨b, 0, none⟩)]] w fun ex w' => ∃ v, ex = .returned v ∧ w'.ownsRow w.heap.size e 1 v 0 [] ∧ Below w.heap.size w w'
def sortedC (P : Program) (gs gk : FuncId) (e : TypeId) : Caller := fun f xs lv st => match xs with
  | [.fn g [.p kb vb i path]] => if f = gs ∧ g = gk ∧ i = 0 ∧ path = [] ∧ (st kb).ver = vb ∧ (st kb).live = true ∧ szOf P (st kb).e = 1 ∧ szOf P e = 1 then match (st kb).vs with
    | [.nilm] => some (.d (.sl e []), st)
    | [.mp km vm] => if (st km).ver = vm ∧ (st km).live = true then match mkeys (st km).vs with
      | some ns => if ns.all inI64 = true ∧ ns.length * 8 ≤ maxRow then some (.d (.sl e ((isort ns).map (D.int .i64))), st) else none
      | none => none
      else none
    | _ => none
    else none
  | _ => none
theorem mkeys_rel {S : Nat → Prop} {σ : Sig} {st : Store} {w : World} : ∀ {vs : List V} {es : List MapEntry} {ns : List Int}, MapRel P S σ st w vs es → mkeys vs = some ns → es.map (·.key) = ns.map (Value.int .i64)
  | [], es, ns, h, hn => by cases h; cases hn; rfl
  | [_], es, ns, h, hn => h.elim
  | k :: v :: vs, es, ns, h, hn => by
    obtain ⟨e, q, rfl, h1, h2, h3⟩ := h
    simp only [mkeys] at hn
    split at hn
    · rename_i n
      split at hn
      · rename_i ms hm
        cases hn
        have hk : e.key = .int .i64 n := relV_int (P := P) (S := S) (σ := σ) (st := st) (w := w) h1
        rw [List.map_cons, List.map_cons, hk, mkeys_rel h3 hm]
      · cases hn
    · cases hn
theorem fls_ints {S : Nat → Prop} {w : World} : ∀ ns : List Int, Fl.fls P S w (ns.map (D.int .i64)) (ns.map fun n => [Value.int .i64 n])
  | [] => rfl
  | n :: ns => ⟨[.int .i64 n], _, rfl, rfl, fls_ints ns⟩
theorem sortedC_ok {gs gk : FuncId} {e : TypeId} (h : SortedOk P gs gk e) : CallerOk P (sortedC P gs gk e) := by
  obtain ⟨⟨fn, f1, f2, f3⟩, hs, hs0⟩ := h
  intro f xs lv st v st' h B0 S σ w vals hI hx
  unfold sortedC at h
  split at h
  · rename_i g kb vb i path
    split at h
    · rename_i hc
      obtain ⟨rfl, rfl, rfl, rfl, hvb, hlb, hszb, hsze⟩ := hc
      obtain ⟨x, r, rfl, hx1, hr⟩ := hx
      obtain rfl : r = [] := hr
      have hx2 : RelC P S σ st w (.fn g [.p kb vb 0 []]) [x] := by
        rcases hx1 with h | ⟨h, _⟩ | ⟨_, h⟩
        · cases h
        · cases h
        · exact h
      obtain ⟨caps, hfn, hcaps⟩ := hx2
      obtain ⟨c1, r1, e1, hp, hr1⟩ := hcaps
      have hr1' : r1 = [] := hr1
      subst hr1'
      obtain ⟨A, rfl, hAv, hA⟩ := hp
      obtain ⟨hpos, b, cap, off, hσb, hoff, hAeq⟩ := hA hvb.symm hlb
      have ho0 : off = 0 := by simpa [pathOff] using hoff.symm
      subst ho0
      have hAe : A = ⟨b, 0, none⟩ := by rw [hAeq]; simp
      subst hAe
      have hcapv : caps = [.pointer (some ⟨b, 0, none⟩)] := by
        cases caps with
        | nil => cases e1
        | cons a q => simp only [List.map_cons, List.cons.injEq, and_true] at e1; cases q with
          | nil => simpa using e1.1
          | cons _ _ => simp at e1
      subst hcapv
      have hxv : x = .func (.func g) #[] #[.pointer (some ⟨b, 0, none⟩)] := by simpa using hfn
      subst hxv
      obtain ⟨_, hsome⟩ := (hI.own kb hlb).row hpos
      obtain ⟨g1, g2, g3, cur, css, g4, g5, g6, g7, g8, g9, g10⟩ := hsome b cap hσb
      have hcellv : ∀ val, css = [[val]] → (st kb).vs.length = 1 → w.cell? ⟨b, 0, none⟩ = some val := by
        intro val hcss hlen
        have ht : cur.toList.take 1 = [val] := by rw [hcss, hlen, hszb] at g8; simpa using g8
        rw [cell_of_row w b 0 cur _ _ g4]
        have h3 := cell_of_take (cur := cur) (N := 1) (j := 0) ht (by simp)
        simpa using h3
      split at h
      · rename_i hvs
        cases h
        rw [hvs] at g10
        obtain ⟨c2, r2, hc2, hmp, hr2⟩ := g10
        have hr2' : r2 = [] := hr2
        subst hr2'
        have hmp' : c2 = [Value.map none] := hmp
        subst hmp'
        have hcell := hcellv _ hc2 (by rw [hvs]; rfl)
        refine .inl ⟨fn, f1, f2, f3, (hs0 b w hcell).mono ?_⟩
        rintro e' w' ⟨v, rfl, hrow, hb⟩
        obtain ⟨j1, j2, j3⟩ := after_spec hI hb
        refine ⟨_, rfl, Plus S w w', σ, j1, j2, j3, RelC.to_v ?_ rfl⟩
        obtain ⟨hl, hrow⟩ := hrow
        rcases hrow with ⟨rfl, hz⟩ | ⟨gb, cap', cur', rfl, _⟩
        · exact ⟨_, _, rfl, .inl rfl⟩
        · exact ⟨_, _, rfl, .inl rfl⟩
      · rename_i km vm hvs
        split at h
        · rename_i hcm
          obtain ⟨hvm, hlm⟩ := hcm
          split at h
          · rename_i ns hns
            split at h
            · rename_i hok
              cases h
              rw [hvs] at g10
              obtain ⟨c2, r2, hc2, hmp, hr2⟩ := g10
              have hr2' : r2 = [] := hr2
              subst hr2'
              obtain ⟨rm, rfl, hmv, hmm⟩ := hmp
              obtain ⟨h0m, capm, hσm⟩ := hmm hvm.symm hlm
              have hcell := hcellv _ hc2 (by rw [hvs]; rfl)
              obtain ⟨es, clock, m1, m2, m3⟩ := map_at_s hI hlm h0m hσm
              have hkeys := mkeys_rel m2 hns
              have hall : ∀ n ∈ ns, inI64 n = true := by simpa using hok.1
              refine .inl ⟨fn, f1, f2, f3, (hs b rm es clock ns w hcell m1 m3 hkeys hall hok.2).mono ?_⟩
              rintro e' w' ⟨v, rfl, hrow, hb⟩
              obtain ⟨j1, j2, j3⟩ := after_spec hI hb
              refine ⟨_, rfl, Plus S w w', σ, j1, j2, j3, RelC.to_v ?_ rfl⟩
              obtain ⟨hl, hrow⟩ := hrow
              rcases hrow with ⟨rfl, hz⟩ | ⟨gb, cap', cur', rfl, hge, hgb, q1, q2, q3, q4⟩
              · have hn : ns = [] := List.eq_nil_of_length_eq_zero hz
                subst hn
                exact ⟨_, _, rfl, .inl rfl⟩
              · have hlen : ((isort ns).map (D.int .i64)).length = ns.length := by simp [isort_len]
                refine ⟨some ⟨gb, 0, none⟩, cap', by rw [hlen], .inr ⟨gb, 0, (isort ns).map fun n => [Value.int .i64 n], rfl, .inr ⟨hge, ?_⟩, by rw [hlen]; exact q1, ?_, ?_, fls_ints _⟩⟩
                · exact (Array.getElem?_eq_some_iff.1 hgb).1
                · intro c hc
                  obtain ⟨n, _, rfl⟩ := List.mem_map.1 hc
                  simp [hsze]
                · refine ⟨cur', e, (0, 0), hgb, fun j hj => ?_⟩
                  rw [Nat.zero_add, flat_iV] at *
                  have hq : cur'.toList.take (ns.length * 1) = (isort ns).map (Value.int .i64) := q4
                  rw [← hq] at hj ⊢
                  rw [List.length_take] at hj
                  rw [List.getElem?_take_of_lt (by omega), Array.getElem?_toList]
            · cases h
          · cases h
        · cases h
      · cases h
    · cases h
  · cases h
/-! ### a copy of a slice without elements -/
def CloneOk (P : Program) (g : FuncId) : Prop := (∃ fn, P.funcs[g]? = some fn ∧ (fn.name == "runtime.NumGoroutine") = false ∧ fn.body.isNone = false) ∧
  ∀ (A : Option Addr) (c : Nat) (w : World), Calls P g #[.slice A 0 c] w fun ex w' => ∃ A' c', ex = .returned (.slice A' 0 c') ∧ Below w.heap.size w w'
def cloneC (xs : List V) (st : Store) : Option (V × Store) := match xs with
  | [.d (.sl e ds)] => if ds.length = 0 then some (.d (.sl e ds), st) else none
  | _ => none
def clO (a b : Option (V × Store)) : Option (V × Store) := match a with
  | some r => some r
  | none => b
theorem clO_s (r : V × Store) (b : Option (V × Store)) : clO (some r) b = some r := nr rfl
theorem clO_n (b : Option (V × Store)) : clO none b = b := nr rfl
theorem cl_d (e : TypeId) (ds : List D) (st : Store) : cloneC [.d (.sl e ds)] st = if ds.length = 0 then some (.d (.sl e ds), st) else none := nr rfl
theorem cl_nils (e : TypeId) (st : Store) : cloneC [.nils e] st = none := nr rfl
theorem cl_nila (e : TypeId) (st : Store) : cloneC [.nila e] st = none := nr rfl
theorem cl_rs (e : TypeId) (k : Key) (ver off len : Nat) (full : Bool) (st : Store) : cloneC [.rs e k ver off len full] st = none := nr rfl
theorem clO_i {T : Table} {base : Caller} {c : Nat} {f : FuncId} {xs : List V} {lv : Nat} {st : Store} {X : Option (V × Store)} (hb : ∀ xs lv st, base f xs lv st = cloneC xs st) (h : base f xs lv st = none → evFB P Γ T L base (c + 1) f xs lv st = X) : evFB P Γ T L base (c + 1) f xs lv st = clO (cloneC xs st) X := by
  cases hc : cloneC xs st with
  | some r => rw [evFB_i, hb, hc]; rfl
  | none => rw [h (by rw [hb, hc])]; rfl
/-- A caller that takes some functions, each in its own way. -/
def pickC (l : List (FuncId × Caller)) : Caller := fun f xs lv st => match l with
  | [] => none
  | (g, c) :: r => if f = g then c f xs lv st else pickC r f xs lv st
theorem pickC_ok : ∀ {l : List (FuncId × Caller)}, (∀ q ∈ l, CallerOk P q.2) → CallerOk P (pickC l)
  | [], _ => by intro f xs lv st v st' h; cases h
  | (g, c) :: r, hl => by
    intro f xs lv st v st' h
    have h' : (if f = g then c f xs lv st else pickC r f xs lv st) = some (v, st') := by simpa [pickC] using h
    split at h'
    · exact hl (g, c) (by simp) f xs lv st v st' h'
    · exact pickC_ok (fun q hq => hl q (by simp [hq])) f xs lv st v st' h'
def cloneK (g : FuncId) : Caller := fun f xs lv st => if f = g then cloneC xs st else none
theorem cloneK_ok {g : FuncId} (h : CloneOk P g) : CallerOk P (cloneK g) := by
  obtain ⟨⟨fn, f1, f2, f3⟩, hs⟩ := h
  intro f xs lv st v st' h B0 S σ w vals hI hx
  unfold cloneK at h
  split at h
  · rename_i hf
    subst hf
    unfold cloneC at h
    split at h
    · rename_i e ds
      split at h
      · rename_i hl
        cases h
        have hd : ds = [] := List.eq_nil_of_length_eq_zero hl
        subst hd
        obtain ⟨x, r, rfl, hx1, hr⟩ := hx
        obtain rfl : r = [] := hr
        obtain ⟨A, cap, rfl, _⟩ := relV_sl (RelN.to_v hx1)
        refine .inl ⟨fn, f1, f2, f3, (hs A cap w).mono ?_⟩
        rintro e' w' ⟨A', c', rfl, hb⟩
        obtain ⟨j1, j2, j3⟩ := after_spec hI hb
        exact ⟨_, rfl, Plus S w w', σ, j1, j2, j3, RelC.to_v ⟨_, _, rfl, .inl rfl⟩ rfl⟩
      · cases h
    · cases h
  · cases h
end
end Go.Ev
end
section
set_option linter.unusedVariables false
namespace Go.Proofs.Ytnojehmbiceceaa.CloneP
open Go.RowKit Go.Proofs
theorem app0 {P : Program} {t ty e : TypeId} {i : TypeInfo} (hu : P.underlying t = some (.slice e)) (hi : P.info? e = some i) (A X : Option Addr) (xc : Nat) (w : World) :
    (Builtin.append_ #[t, t] ty #[.slice A 0 0, .slice X 0 xc]).run P w = .ok (.slice A 0 0) w := Go.Ev.run_append_zero hu hi A X 0 0 xc (Nat.le_refl _) w
set_option maxRecDepth 100000 in
theorem clone58 : Go.Ev.CloneOk Try.prog 58 := ⟨⟨_, Try.func58, by kernel_rfl, by kernel_rfl⟩, fun A c w => by
  have hu : Try.prog.underlying 100 = some (.slice 93) := by kernel_rfl
  have hi0 : (Try.prog.info? 93).isSome = true := by kernel_rfl
  obtain ⟨i, hi⟩ := Option.isSome_iff_exists.1 hi0
  have happ := app0 (P := Try.prog) (t := 100) (ty := 100) hu hi
  have q22 : ∀ (w : World) (a : Option Addr) (n c n' c' : Nat), (binOp .eql 100 (.slice a n c) (.slice none n' c')).run Try.prog w = .ok (.bool a.isNone) w := fun w a n c n' c' => Lib.run_eql_slice_nil w _ _ a n c n' c' hu
  have u22 := run_underlying hu
  cases A with
  | none =>
    go_enter Try.func58, Try.ntmps58
    go_wp2
    go_ret
    exact ⟨_, _, rfl, Below.refl _ _⟩
  | some a =>
    go_enter Try.func58, Try.ntmps58
    go_wp2
    go_ret
    exact ⟨_, _, rfl, (Below.refl _ w).alloc (Nat.le_refl _) _⟩⟩
set_option maxRecDepth 100000 in
theorem clone94 : Go.Ev.CloneOk Try.prog 94 := ⟨⟨_, Try.func94, by kernel_rfl, by kernel_rfl⟩, fun A c w => by
  have hu : Try.prog.underlying 22 = some (.slice 3) := by kernel_rfl
  have hi0 : (Try.prog.info? 3).isSome = true := by kernel_rfl
  obtain ⟨i, hi⟩ := Option.isSome_iff_exists.1 hi0
  have happ := app0 (P := Try.prog) (t := 22) (ty := 22) hu hi
  have q22 : ∀ (w : World) (a : Option Addr) (n c n' c' : Nat), (binOp .eql 22 (.slice a n c) (.slice none n' c')).run Try.prog w = .ok (.bool a.isNone) w := fun w a n c n' c' => Lib.run_eql_slice_nil w _ _ a n c n' c' hu
  have u22 := run_underlying hu
  cases A with
  | none =>
    go_enter Try.func94, Try.ntmps94
    go_wp2
    go_ret
    exact ⟨_, _, rfl, Below.refl _ _⟩
  | some a =>
    go_enter Try.func94, Try.ntmps94
    go_wp2
    go_ret
    exact ⟨_, _, rfl, (Below.refl _ w).alloc (Nat.le_refl _) _⟩⟩
set_option maxRecDepth 100000 in
theorem clone124 : Go.Ev.CloneOk Try.prog 124 := ⟨⟨_, Try.func124, by kernel_rfl, by kernel_rfl⟩, fun A c w => by
  have hu : Try.prog.underlying 70 = some (.slice 89) := by kernel_rfl
  have hi0 : (Try.prog.info? 89).isSome = true := by kernel_rfl
  obtain ⟨i, hi⟩ := Option.isSome_iff_exists.1 hi0
  have happ := app0 (P := Try.prog) (t := 70) (ty := 70) hu hi
  have q22 : ∀ (w : World) (a : Option Addr) (n c n' c' : Nat), (binOp .eql 70 (.slice a n c) (.slice none n' c')).run Try.prog w = .ok (.bool a.isNone) w := fun w a n c n' c' => Lib.run_eql_slice_nil w _ _ a n c n' c' hu
  have u22 := run_underlying hu
  cases A with
  | none =>
    go_enter Try.func124, Try.ntmps124
    go_wp2
    go_ret
    exact ⟨_, _, rfl, Below.refl _ _⟩
  | some a =>
    go_enter Try.func124, Try.ntmps124
    go_wp2
    go_ret
    exact ⟨_, _, rfl, (Below.refl _ w).alloc (Nat.le_refl _) _⟩⟩
set_option maxRecDepth 100000 in
theorem clone195 : Go.Ev.CloneOk Try.prog 195 := ⟨⟨_, Try.func195, by kernel_rfl, by kernel_rfl⟩, fun A c w => by
  have hu : Try.prog.underlying 93 = some (.slice 118) := by kernel_rfl
  have hi0 : (Try.prog.info? 118).isSome = true := by kernel_rfl
  obtain ⟨i, hi⟩ := Option.isSome_iff_exists.1 hi0
  have happ := app0 (P := Try.prog) (t := 93) (ty := 93) hu hi
  have q22 : ∀ (w : World) (a : Option Addr) (n c n' c' : Nat), (binOp .eql 93 (.slice a n c) (.slice none n' c')).run Try.prog w = .ok (.bool a.isNone) w := fun w a n c n' c' => Lib.run_eql_slice_nil w _ _ a n c n' c' hu
  have u22 := run_underlying hu
  cases A with
  | none =>
    go_enter Try.func195, Try.ntmps195
    go_wp2
    go_ret
    exact ⟨_, _, rfl, Below.refl _ _⟩
  | some a =>
    go_enter Try.func195, Try.ntmps195
    go_wp2
    go_ret
    exact ⟨_, _, rfl, (Below.refl _ w).alloc (Nat.le_refl _) _⟩⟩
end Go.Proofs.Ytnojehmbiceceaa.CloneP
end
section
set_option linter.unusedVariables false
set_option linter.unusedSimpArgs false
set_option maxRecDepth 100000
namespace Go.Proofs.Ytnojehmbiceceaa.E
open Go.Ev
noncomputable def en41 : Entry := ⟨Try.f41, [(0, mb 35 0 [0, 9, 10, 11]), (1000001, mb 35 0 []), (1000002, mb 35 0 [0, 9, 10, 11]), (1000000, mb 35 0 [2])]⟩
theorem dw41_9 (lv : Nat) (env : List V) (st : Store) (o : Option (List V × Store)) : drawR en41.ms 9 lv env st o = if lv < 1000000000000000000000000000000 then (o) else none := nr rfl
theorem kl41_9 (lv : Nat) (st : Store) : killR en41.ms 9 lv st = st := nr rfl
theorem nc41_9 : ncOf en41.ms 9 = false := nr rfl
theorem mk41_0 (vs : List V) : mask (maskOf en41.ms 0) vs = km 35 0 [0, 9, 10, 11] vs := mask_mb _ _ _ _
theorem mk41_1000001 (vs : List V) : mask (maskOf en41.ms 1000001) vs = km 35 0 [] vs := mask_mb _ _ _ _
theorem mk41_1000002 (vs : List V) : mask (maskOf en41.ms 1000002) vs = km 35 0 [0, 9, 10, 11] vs := mask_mb _ _ _ _
theorem mk41_1000000 (vs : List V) : mask (maskOf en41.ms 1000000) vs = km 35 0 [2] vs := mask_mb _ _ _ _
theorem fz41_0 (lv : Nat) (f : Run) : frzF en41.ms lv 0 f = f := nr rfl
theorem fi41_0 (lv : Nat) (env : List V) (st : Store) (q : Store → Out) : frzI en41.ms lv 0 env st q = q st := nr rfl
noncomputable def lb41_0 : Code := loopN Try.f41 0
end Go.Proofs.Ytnojehmbiceceaa.E
end
section
set_option linter.unusedVariables false
set_option linter.unusedSimpArgs false
set_option maxRecDepth 100000
namespace Go.Proofs.Ytnojehmbiceceaa.P
open Go.Ev Go.IntKind Go.Proofs.Ytnojehmbiceceaa Go.Proofs.Ytnojehmbiceceaa.Ty Go.Proofs.Ytnojehmbiceceaa.E
def p_bound_Check_Coord (L : Nat) (a0_0 : Int) (a0_1 : Int) (a0_2 : Bool) : Option Int := cb a0_2 (cb (decide (a0_0 = 0)) (cb (decide (a0_1 = 0)) (if (minI a0_0 a0_1) < (-1152921504606846976) then (some 4) else (if (maxI a0_0 a0_1) > 1152921504606846976 then (some 4) else (if a0_0 > a0_1 then (some 11) else (some 0)))) (some 3)) (some 3)) (if (minI a0_0 a0_1) < (-1152921504606846976) then (some 4) else (if (maxI a0_0 a0_1) > 1152921504606846976 then (some 4) else (if a0_0 > a0_1 then (some 11) else (some 0))))
attribute [local go_sem] Ev.putR_s Ev.putR_0 Ev.thenO_s Ev.thenO_0 Ev.seqR_n Ev.seqR_e Ev.seqR_r Ev.seqR_0 Ev.blkR_e Ev.blkR_n Ev.blkR_r Ev.blkR_0 Ev.normR_s Ev.normR_0 Ev.outR_r Ev.outR_n Ev.outR_0 Ev.retS_s Ev.retS_0 Ev.pureO_s Ev.pureO_0 Ev.topR_0 Ev.topR_t Ev.topR_t0 Ev.oneL_0 Ev.oneL_s Ev.topR_d Ev.topR_nils Ev.topR_agg Ev.topR_rs Ev.evOp_move Ev.evOp_assign Ev.evOp_pick Ev.evOp_alloc Ev.evOp_box Ev.evOp_build Ev.evOp_buildSlice Ev.evOp_load Ev.evOp_store Ev.evOp_makeMap Ev.evOp_lookup Ev.evOp_mapUpdate Ev.evOp_insert Ev.evOp_nilCheck Ev.evOp_binOp Ev.evOp_unOp Ev.evOp_convert Ev.evOp_makeFunc Ev.evOp_makeSlice Ev.evOp_slice Ev.evOp_fieldAddr Ev.evOp_field Ev.evOp_indexAddr Ev.evOp_index Ev.evOp_extract Ev.evOp_call Ev.evOp_append Ev.evOp_clear Ev.evOp_len Ev.evLen_d Ev.evLen_rs Ev.evLen_nils Ev.evLen_nila Ev.evLen_mp Ev.evOp_min Ev.evOp_max Ev.condR_b Ev.condR_t Ev.evOps_nil Ev.evOps_plain Ev.evOps_guard Ev.runG_eq Ev.skipG_eq Ev.condL_tt Ev.condL_ff Ev.condL_tf Ev.condL_ft Ev.condL_u Ev.condC_t Ev.condC_f Ev.evC_skip Ev.evC_ret Ev.evC_exit Ev.evC_label Ev.evC_region Ev.evC_draw Ev.evC_seq Ev.evC_cond Ev.evC_block Ev.evC_loop Ev.fin_d Ev.fin_nila Ev.fin_nils Ev.fin_agg_ Ev.fin_rs Ev.finS_s Ev.mapO_fin Ev.upd_upd Ev.argv_d Ev.argv_nila Ev.argv_nils Ev.argv_agg Ev.argv_rs Ev.argv_p Ev.fk_low Ev.appendTo_nils Ev.appendTo_nila Ev.appendTo_rs Ev.consV_d Ev.consV_agg Ev.consV_p Ev.consV_rs Ev.consV_nila Ev.consV_nils Ev.consV_fn Ev.consV_und Ev.consV_jk Ev.consV_grown Ev.topR_grown Ev.len_grown Ev.consV_nilm Ev.consV_mp Ev.sameK_i Ev.sameK_s Ev.mget_0 Ev.mget_hit Ev.mget_miss Ev.mput_0 Ev.mput_hit Ev.mput_miss Ev.apartAll Ev.apartL Ev.apartV Ev.freeAll Ev.sel Ev.keyOfV Ev.evLookup Ev.evPut Ev.hintOk Ev.keyOk Ev.consP Ev.lookV Ev.guardV Ev.dstAt Ev.evPure Ev.evStore Ev.evBin Ev.evBinO Ev.evNil Ev.isNilC Ev.evUn Ev.evConv Ev.evSlice Ev.optI Ev.foldI Ev.capsOk Ev.noTup Ev.nth Ev.setN Ev.killAt Ev.pad Ev.V.get Ev.V.put Ev.putD Ev.newBlk Ev.upd Ev.keq Ev.empty Ev.evCall Ev.V.args Ev.argP Ev.callOf Ev.evNilP Ev.isNilP Ev.look Ev.V.view.views Ev.V.view Ev.V.toD Ev.V.toD.V.toDs Ev.V.pure.pures Ev.V.pure Ev.D.flat.flats Ev.D.flat Ev.mkAgg Ev.allD Ev.aggParts Ev.setParts Ev.setElems Ev.getPath Ev.setPath Ev.subL Ev.eqD Ev.eqD.eqDs Ev.and2 Ev.strCut Ev.evalT Ev.constT Ev.evArgs Ev.mask Ev.maskOf Ev.tableOf Ev.compT Ev.resV Ev.retV Ev.mapO Ev.eT_nils Ev.ag_t Ev.ag_f Ev.ag_0 Ev.ag_n Ev.mx_u64 Ev.mx_u32 Ev.mx_u16 Ev.mx_u8 Ev.sg_i64 Ev.sg_i32 Ev.sg_i16 Ev.sg_i8 Ev.sg_u64 Ev.sg_u32 Ev.sg_u16 Ev.sg_u8 Ev.mapE_i Ev.mapV_nil Ev.hT_nilm Ev.mget_map Ev.mput_map Ev.mapV_put Ev.mapV_half Ev.hT_nila Ev.eO_nila Ev.pL_nila Ev.evLen_gl Ev.r_nila Ev.frzO_n Ev.frzO_e Ev.frzO_r Ev.frzO_0 Ev.mb_z Ev.mb_0 Ev.mb_s Ev.frzL_t Ev.frzL_f Ev.frzL_0 Ev.frzT_nils Ev.frzT_rs Ev.frzT_p Ev.frzK_i Ev.keyIn_i Ev.rI_nil Ev.rI_cons Ev.rI_row Ev.rI_app Ev.r_d Ev.r_nils Ev.r_agg Ev.r_rs Ev.r_gl Ev.vw_row Ev.vw_app Ev.appO_s Ev.frzT_gl Ev.allD_gl Ev.killAt_i Ev.tkOne_i Ev.hT_agg Ev.hT_vagg Ev.hT_int Ev.hT_bool Ev.hT_str Ev.hT_sl Ev.hT_ptr Ev.hT_np Ev.hT_p Ev.hT_rs Ev.hT_mp Ev.hT_nils Ev.hT_fn Ev.hT_jk Ev.hT_gl Ev.eO_sl Ev.eO_nils Ev.eO_rs Ev.eT_sl Ev.eT_rs Ev.pL_str Ev.pL_sl Ev.pL_rs Ev.pL_nils Ev.pL_min Ev.pL_max Ev.len_glB Ev.noTup_gl Ev.rowV_len Ev.rowV_nil Ev.rowV_cons Ev.rowV_append Ev.rowV_set Ev.rowV_replicate Ev.nth_row Ev.row_take Ev.row_drop Ev.toDs_row Ev.fin_row Ev.map_row Ev.map_take_ Ev.map_drop_ Ev.Bk_i Ev.GlB_0 Ev.GlB_mk Ev.gl_nil Ev.gl_cons Ev.gl_snoc Ev.gl_setN Ev.appendTo_gl Ev.consV_gl Ev.elems_gl Ev.fin_gl Ev.view_gl Ev.argv_gl Ev.topR_gl Ev.sp_z Ev.sp_0 Ev.sp_s Ev.km_z Ev.km_0 Ev.km_s Ev.beq_toList Ev.nc0 Ev.bq_t Ev.bq_f Ev.bodyN Ev.le_maxRow Int.cast_ofNat_Int IntWalk.i64_in IntWalk.u64_in IntWalk.u8_in beq_self_eq_true Bool.true_beq Bool.false_beq Bool.and_true Bool.true_and Bool.false_and Bool.and_false Bool.and_self Bool.not_true Bool.not_false Bool.not_eq_true cond_true cond_false if_true if_false and_true true_and and_self decide_true decide_false Bool.or_true Bool.true_or Bool.or_false Bool.false_or List.isEmpty List.isEmpty_nil List.size_toArray List.map List.length_map List.length_cons List.length_nil Option.map Option.bind Option.getD Option.isSome List.replicate Bool.false_eq_true implies_true false_implies forall_const Array.toList Array.isEmpty List.append List.nil_append List.cons_append List.drop_zero List.take_length List.take_succ_cons List.take_zero List.take_nil List.getElem?_map List.getElem?_cons_zero List.getElem?_cons_succ List.getElem?_nil List.append_nil eq_self Int.toNat_natCast List.length_append List.length_set Nat.zero_add Nat.add_zero List.length_replicate Nat.sub_zero Option.map_some Option.map_none Int.le_refl Nat.le_refl Int.natCast_nonneg List.map_append
attribute [local go_sem_proc] Nat.reduceAdd Nat.reduceSub Nat.reduceMul Nat.reduceEqDiff Nat.reduceBEq Nat.reduceLT Nat.reduceLeDiff Nat.reducePow Int.reduceToNat Int.reduceLT Int.reduceLE Int.reduceGT Int.reduceGE Int.reduceEq Int.reduceNeg Int.reduceAdd Int.reduceSub Int.reduceMul reduceCtorEq
attribute [local go_sem_proc ↓] reduceIte
noncomputable def G_bound_Check_Coord (L : Nat) : Specs := []
noncomputable def T_bound_Check_Coord : Table := tableOf [(193, en193)]
theorem Go_bound_Check_Coord (L : Nat) (hL : L ≤ 4611686018427387904) : ∀ g s, Ev.look (G_bound_Check_Coord L) g = some s → SpecOk Try.prog g s := specs_nil
theorem To_bound_Check_Coord (L : Nat) : TableOk Try.prog ((G_bound_Check_Coord L).map (·.1)) T_bound_Check_Coord := (table_cons Try.func193 (by kernel_rfl) (by kernel_rfl) table_nil)
attribute [local go_sem] Ty.tk4 Ty.ub4 Ty.ek4 Ty.zv4 Ty.by4 Ty.so4 Ty.tk27 Ty.ik27 Ty.ek27 Ty.zv27 Ty.by27 Ty.so27 Ty.tk62 Ty.ik62 Ty.ek62 Ty.zv62 Ty.by62 Ty.so62 Ty.tk64 Ty.ct64 Ty.ek64 Ty.zv64 Ty.by64 Ty.so64 Ty.k64_e E.mk193_1000001 E.mk193_1000000 loopN loops Try.f193
theorem e_bound_Check_Coord (L : Nat) (hL : L ≤ 4611686018427387904) (a0_0 : Int) (a0_1 : Int) (a0_2 : Bool) (res : Int) (h : p_bound_Check_Coord L a0_0 a0_1 a0_2 = some res) : evTop Try.prog (G_bound_Check_Coord L) T_bound_Check_Coord L 1 193 [.agg 64 [.int .i64 a0_0, .int .i64 a0_1, .bool a0_2]] = some [.int .i64 res] := by
  revert h
  unfold p_bound_Check_Coord evTop
  simp only [List.map]
  rw [evF_s (fn := Try.f193) (msk := en193.ms) (hT := by rfl) (hb := by rfl)]
  refine cb_i (fun c1 => ?_) (fun c1 => ?_)
  · refine cb_i (fun c2 => ?_) (fun c2 => ?_)
    · refine cb_i (fun c3 => ?_) (fun c3 => ?_)
      · refine ite_i (fun c4 => ?_) (fun c4 => ?_)
        · rintro ⟨⟩
          simp only [go_sem, *]
        · refine ite_i (fun c5 => ?_) (fun c5 => ?_)
          · rintro ⟨⟩
            simp only [go_sem, *]
          · refine ite_i (fun c6 => ?_) (fun c6 => ?_)
            · rintro ⟨⟩
              simp only [go_sem, *]
            · rintro ⟨⟩
              simp only [go_sem, *]
      · rintro ⟨⟩
        simp only [go_sem, *]
    · rintro ⟨⟩
      simp only [go_sem, *]
  · refine ite_i (fun c7 => ?_) (fun c7 => ?_)
    · rintro ⟨⟩
      simp only [go_sem, *]
    · refine ite_i (fun c8 => ?_) (fun c8 => ?_)
      · rintro ⟨⟩
        simp only [go_sem, *]
      · refine ite_i (fun c9 => ?_) (fun c9 => ?_)
        · rintro ⟨⟩
          simp only [go_sem, *]
        · rintro ⟨⟩
          simp only [go_sem, *]
noncomputable def s_bound_Check_Coord (L : Nat) : Ev.Spec := specP (cCons k64 cNil) (fun x => p_bound_Check_Coord L x.1.1 x.1.2.1 x.1.2.2.1) (fun r => [.int .i64 r])
theorem s_bound_Check_Coord_run (L : Nat) (a0_0 : Int) (a0_1 : Int) (a0_2 : Bool) : (s_bound_Check_Coord L).run [.agg 64 [.int .i64 a0_0, .int .i64 a0_1, .bool a0_2]] = (p_bound_Check_Coord L a0_0 a0_1 a0_2).map fun r => [.int .i64 r] := specP_run (cCons k64 cNil) (fun x => p_bound_Check_Coord L x.1.1 x.1.2.1 x.1.2.2.1) (fun r => [.int .i64 r]) ((a0_0, a0_1, a0_2, ()), ())
theorem ok_bound_Check_Coord (L : Nat) (hL : L ≤ 4611686018427387904) : SpecOk Try.prog 193 (s_bound_Check_Coord L) := specP_ok mixed (Go_bound_Check_Coord L hL) (To_bound_Check_Coord L) fun x r h => ⟨L, 1, e_bound_Check_Coord L hL x.1.1 x.1.2.1 x.1.2.2.1 r h⟩
end Go.Proofs.Ytnojehmbiceceaa.P
end
section
set_option linter.unusedVariables false
set_option linter.unusedSimpArgs false
set_option maxRecDepth 100000
namespace Go.Proofs.Ytnojehmbiceceaa.P
open Go.Ev Go.IntKind Go.Proofs.Ytnojehmbiceceaa Go.Proofs.Ytnojehmbiceceaa.Ty Go.Proofs.Ytnojehmbiceceaa.E
def p_catalog_ends_Coord (L : Nat) (a0_0 : Int) (a0_1 : Int) (a0_2 : Bool) (a1 : Int) : Option Int := bnd (p_bound_Check_Coord L a0_0 a0_1 a0_2) fun r1 => cb (decide (r1 = 0)) (if a0_0 < (i64.wrap (0 - a1)) then (some 4) else (if a0_1 > a1 then (some 4) else (some 0))) (some r1)
attribute [local go_sem] Ev.putR_s Ev.putR_0 Ev.thenO_s Ev.thenO_0 Ev.seqR_n Ev.seqR_e Ev.seqR_r Ev.seqR_0 Ev.blkR_e Ev.blkR_n Ev.blkR_r Ev.blkR_0 Ev.normR_s Ev.normR_0 Ev.outR_r Ev.outR_n Ev.outR_0 Ev.retS_s Ev.retS_0 Ev.pureO_s Ev.pureO_0 Ev.topR_0 Ev.topR_t Ev.topR_t0 Ev.oneL_0 Ev.oneL_s Ev.topR_d Ev.topR_nils Ev.topR_agg Ev.topR_rs Ev.evOp_move Ev.evOp_assign Ev.evOp_pick Ev.evOp_alloc Ev.evOp_box Ev.evOp_build Ev.evOp_buildSlice Ev.evOp_load Ev.evOp_store Ev.evOp_makeMap Ev.evOp_lookup Ev.evOp_mapUpdate Ev.evOp_insert Ev.evOp_nilCheck Ev.evOp_binOp Ev.evOp_unOp Ev.evOp_convert Ev.evOp_makeFunc Ev.evOp_makeSlice Ev.evOp_slice Ev.evOp_fieldAddr Ev.evOp_field Ev.evOp_indexAddr Ev.evOp_index Ev.evOp_extract Ev.evOp_call Ev.evOp_append Ev.evOp_clear Ev.evOp_len Ev.evLen_d Ev.evLen_rs Ev.evLen_nils Ev.evLen_nila Ev.evLen_mp Ev.evOp_min Ev.evOp_max Ev.condR_b Ev.condR_t Ev.evOps_nil Ev.evOps_plain Ev.evOps_guard Ev.runG_eq Ev.skipG_eq Ev.condL_tt Ev.condL_ff Ev.condL_tf Ev.condL_ft Ev.condL_u Ev.condC_t Ev.condC_f Ev.evC_skip Ev.evC_ret Ev.evC_exit Ev.evC_label Ev.evC_region Ev.evC_draw Ev.evC_seq Ev.evC_cond Ev.evC_block Ev.evC_loop Ev.fin_d Ev.fin_nila Ev.fin_nils Ev.fin_agg_ Ev.fin_rs Ev.finS_s Ev.mapO_fin Ev.upd_upd Ev.argv_d Ev.argv_nila Ev.argv_nils Ev.argv_agg Ev.argv_rs Ev.argv_p Ev.fk_low Ev.appendTo_nils Ev.appendTo_nila Ev.appendTo_rs Ev.consV_d Ev.consV_agg Ev.consV_p Ev.consV_rs Ev.consV_nila Ev.consV_nils Ev.consV_fn Ev.consV_und Ev.consV_jk Ev.consV_grown Ev.topR_grown Ev.len_grown Ev.consV_nilm Ev.consV_mp Ev.sameK_i Ev.sameK_s Ev.mget_0 Ev.mget_hit Ev.mget_miss Ev.mput_0 Ev.mput_hit Ev.mput_miss Ev.apartAll Ev.apartL Ev.apartV Ev.freeAll Ev.sel Ev.keyOfV Ev.evLookup Ev.evPut Ev.hintOk Ev.keyOk Ev.consP Ev.lookV Ev.guardV Ev.dstAt Ev.evPure Ev.evStore Ev.evBin Ev.evBinO Ev.evNil Ev.isNilC Ev.evUn Ev.evConv Ev.evSlice Ev.optI Ev.foldI Ev.capsOk Ev.noTup Ev.nth Ev.setN Ev.killAt Ev.pad Ev.V.get Ev.V.put Ev.putD Ev.newBlk Ev.upd Ev.keq Ev.empty Ev.evCall Ev.V.args Ev.argP Ev.callOf Ev.evNilP Ev.isNilP Ev.look Ev.V.view.views Ev.V.view Ev.V.toD Ev.V.toD.V.toDs Ev.V.pure.pures Ev.V.pure Ev.D.flat.flats Ev.D.flat Ev.mkAgg Ev.allD Ev.aggParts Ev.setParts Ev.setElems Ev.getPath Ev.setPath Ev.subL Ev.eqD Ev.eqD.eqDs Ev.and2 Ev.strCut Ev.evalT Ev.constT Ev.evArgs Ev.mask Ev.maskOf Ev.tableOf Ev.compT Ev.resV Ev.retV Ev.mapO Ev.eT_nils Ev.ag_t Ev.ag_f Ev.ag_0 Ev.ag_n Ev.mx_u64 Ev.mx_u32 Ev.mx_u16 Ev.mx_u8 Ev.sg_i64 Ev.sg_i32 Ev.sg_i16 Ev.sg_i8 Ev.sg_u64 Ev.sg_u32 Ev.sg_u16 Ev.sg_u8 Ev.mapE_i Ev.mapV_nil Ev.hT_nilm Ev.mget_map Ev.mput_map Ev.mapV_put Ev.mapV_half Ev.hT_nila Ev.eO_nila Ev.pL_nila Ev.evLen_gl Ev.r_nila Ev.frzO_n Ev.frzO_e Ev.frzO_r Ev.frzO_0 Ev.mb_z Ev.mb_0 Ev.mb_s Ev.frzL_t Ev.frzL_f Ev.frzL_0 Ev.frzT_nils Ev.frzT_rs Ev.frzT_p Ev.frzK_i Ev.keyIn_i Ev.rI_nil Ev.rI_cons Ev.rI_row Ev.rI_app Ev.r_d Ev.r_nils Ev.r_agg Ev.r_rs Ev.r_gl Ev.vw_row Ev.vw_app Ev.appO_s Ev.frzT_gl Ev.allD_gl Ev.killAt_i Ev.tkOne_i Ev.hT_agg Ev.hT_vagg Ev.hT_int Ev.hT_bool Ev.hT_str Ev.hT_sl Ev.hT_ptr Ev.hT_np Ev.hT_p Ev.hT_rs Ev.hT_mp Ev.hT_nils Ev.hT_fn Ev.hT_jk Ev.hT_gl Ev.eO_sl Ev.eO_nils Ev.eO_rs Ev.eT_sl Ev.eT_rs Ev.pL_str Ev.pL_sl Ev.pL_rs Ev.pL_nils Ev.pL_min Ev.pL_max Ev.len_glB Ev.noTup_gl Ev.rowV_len Ev.rowV_nil Ev.rowV_cons Ev.rowV_append Ev.rowV_set Ev.rowV_replicate Ev.nth_row Ev.row_take Ev.row_drop Ev.toDs_row Ev.fin_row Ev.map_row Ev.map_take_ Ev.map_drop_ Ev.Bk_i Ev.GlB_0 Ev.GlB_mk Ev.gl_nil Ev.gl_cons Ev.gl_snoc Ev.gl_setN Ev.appendTo_gl Ev.consV_gl Ev.elems_gl Ev.fin_gl Ev.view_gl Ev.argv_gl Ev.topR_gl Ev.sp_z Ev.sp_0 Ev.sp_s Ev.km_z Ev.km_0 Ev.km_s Ev.beq_toList Ev.nc0 Ev.bq_t Ev.bq_f Ev.bodyN Ev.le_maxRow Int.cast_ofNat_Int IntWalk.i64_in IntWalk.u64_in IntWalk.u8_in beq_self_eq_true Bool.true_beq Bool.false_beq Bool.and_true Bool.true_and Bool.false_and Bool.and_false Bool.and_self Bool.not_true Bool.not_false Bool.not_eq_true cond_true cond_false if_true if_false and_true true_and and_self decide_true decide_false Bool.or_true Bool.true_or Bool.or_false Bool.false_or List.isEmpty List.isEmpty_nil List.size_toArray List.map List.length_map List.length_cons List.length_nil Option.map Option.bind Option.getD Option.isSome List.replicate Bool.false_eq_true implies_true false_implies forall_const Array.toList Array.isEmpty List.append List.nil_append List.cons_append List.drop_zero List.take_length List.take_succ_cons List.take_zero List.take_nil List.getElem?_map List.getElem?_cons_zero List.getElem?_cons_succ List.getElem?_nil List.append_nil eq_self Int.toNat_natCast List.length_append List.length_set Nat.zero_add Nat.add_zero List.length_replicate Nat.sub_zero Option.map_some Option.map_none Int.le_refl Nat.le_refl Int.natCast_nonneg List.map_append
attribute [local go_sem_proc] Nat.reduceAdd Nat.reduceSub Nat.reduceMul Nat.reduceEqDiff Nat.reduceBEq Nat.reduceLT Nat.reduceLeDiff Nat.reducePow Int.reduceToNat Int.reduceLT Int.reduceLE Int.reduceGT Int.reduceGE Int.reduceEq Int.reduceNeg Int.reduceAdd Int.reduceSub Int.reduceMul reduceCtorEq
attribute [local go_sem_proc ↓] reduceIte
noncomputable def G_catalog_ends_Coord (L : Nat) : Specs := [(193, s_bound_Check_Coord L)]
noncomputable def T_catalog_ends_Coord : Table := tableOf [(125, en125)]
theorem Go_catalog_ends_Coord (L : Nat) (hL : L ≤ 4611686018427387904) : ∀ g s, Ev.look (G_catalog_ends_Coord L) g = some s → SpecOk Try.prog g s := (specs_cons (ok_bound_Check_Coord L hL) specs_nil)
theorem To_catalog_ends_Coord (L : Nat) : TableOk Try.prog ((G_catalog_ends_Coord L).map (·.1)) T_catalog_ends_Coord := (table_cons Try.func125 (by kernel_rfl) (by kernel_rfl) table_nil)
theorem lk_catalog_ends_Coord_193 (L : Nat) : Ev.look (G_catalog_ends_Coord L) 193 = some (s_bound_Check_Coord L) := nr rfl
attribute [local go_sem] Ty.tk4 Ty.ub4 Ty.ek4 Ty.zv4 Ty.by4 Ty.so4 Ty.tk27 Ty.ik27 Ty.ek27 Ty.zv27 Ty.by27 Ty.so27 Ty.tk62 Ty.ik62 Ty.ek62 Ty.zv62 Ty.by62 Ty.so62 Ty.tk64 Ty.ct64 Ty.ek64 Ty.zv64 Ty.by64 Ty.so64 Ty.k64_e E.mk125_1000000 lk_catalog_ends_Coord_193 s_bound_Check_Coord_run loopN loops Try.f125
theorem e_catalog_ends_Coord (L : Nat) (hL : L ≤ 4611686018427387904) (a0_0 : Int) (a0_1 : Int) (a0_2 : Bool) (a1 : Int) (res : Int) (h : p_catalog_ends_Coord L a0_0 a0_1 a0_2 a1 = some res) : evTop Try.prog (G_catalog_ends_Coord L) T_catalog_ends_Coord L 1 125 [.agg 64 [.int .i64 a0_0, .int .i64 a0_1, .bool a0_2], .int .i64 a1] = some [.int .i64 res] := by
  revert h
  unfold p_catalog_ends_Coord evTop
  simp only [List.map]
  rw [evF_s (fn := Try.f125) (msk := en125.ms) (hT := by rfl) (hb := by rfl)]
  refine bnd_i fun r1 c1 => ?_
  refine cb_i (fun c2 => ?_) (fun c2 => ?_)
  · refine ite_i (fun c3 => ?_) (fun c3 => ?_)
    · rintro ⟨⟩
      simp only [go_sem, *]
    · refine ite_i (fun c4 => ?_) (fun c4 => ?_)
      · rintro ⟨⟩
        simp only [go_sem, *]
      · rintro ⟨⟩
        simp only [go_sem, *]
  · rintro ⟨⟩
    simp only [go_sem, *]
noncomputable def s_catalog_ends_Coord (L : Nat) : Ev.Spec := specP (cCons k64 (cCons (cI .i64) cNil)) (fun x => p_catalog_ends_Coord L x.1.1 x.1.2.1 x.1.2.2.1 x.2.1) (fun r => [.int .i64 r])
theorem s_catalog_ends_Coord_run (L : Nat) (a0_0 : Int) (a0_1 : Int) (a0_2 : Bool) (a1 : Int) : (s_catalog_ends_Coord L).run [.agg 64 [.int .i64 a0_0, .int .i64 a0_1, .bool a0_2], .int .i64 a1] = (p_catalog_ends_Coord L a0_0 a0_1 a0_2 a1).map fun r => [.int .i64 r] := specP_run (cCons k64 (cCons (cI .i64) cNil)) (fun x => p_catalog_ends_Coord L x.1.1 x.1.2.1 x.1.2.2.1 x.2.1) (fun r => [.int .i64 r]) ((a0_0, a0_1, a0_2, ()), a1, ())
theorem ok_catalog_ends_Coord (L : Nat) (hL : L ≤ 4611686018427387904) : SpecOk Try.prog 125 (s_catalog_ends_Coord L) := specP_ok mixed (Go_catalog_ends_Coord L hL) (To_catalog_ends_Coord L) fun x r h => ⟨L, 1, e_catalog_ends_Coord L hL x.1.1 x.1.2.1 x.1.2.2.1 x.2.1 r h⟩
end Go.Proofs.Ytnojehmbiceceaa.P
end
section
set_option linter.unusedVariables false
set_option linter.unusedSimpArgs false
set_option maxRecDepth 100000
namespace Go.Proofs.Ytnojehmbiceceaa.P
open Go.Ev Go.IntKind Go.Proofs.Ytnojehmbiceceaa Go.Proofs.Ytnojehmbiceceaa.Ty Go.Proofs.Ytnojehmbiceceaa.E
def p_catalog_CheckRow_l0 (L : Nat) (a0_1_0_0 : Int) (a0_1_0_1 : Int) (a0_1_0_2 : Bool) (a0_1_1_0 : Int) (a0_1_1_1 : Int) (a0_1_1_2 : Bool) (a0_1_2_0 : Int) (a0_1_2_1 : Int) (a0_1_2_2 : Bool) : Nat → Int → Option (Sum Unit Int)
  | 0, s2 => some (.inl ())
  | tl + 1, s2 => cb (decide (s2 = 0)) (bnd (p_catalog_ends_Coord L a0_1_0_0 a0_1_0_1 a0_1_0_2 1073741824) fun r6 => cb (decide (r6 = 0)) (p_catalog_CheckRow_l0 L a0_1_0_0 a0_1_0_1 a0_1_0_2 a0_1_1_0 a0_1_1_1 a0_1_1_2 a0_1_2_0 a0_1_2_1 a0_1_2_2 tl (s2 + 1)) (some (.inr r6))) (cb (decide (s2 = 1)) (bnd (p_catalog_ends_Coord L a0_1_1_0 a0_1_1_1 a0_1_1_2 1073741824) fun r7 => cb (decide (r7 = 0)) (p_catalog_CheckRow_l0 L a0_1_0_0 a0_1_0_1 a0_1_0_2 a0_1_1_0 a0_1_1_1 a0_1_1_2 a0_1_2_0 a0_1_2_1 a0_1_2_2 tl (s2 + 1)) (some (.inr r7))) (cb (decide (s2 = 2)) (bnd (p_catalog_ends_Coord L a0_1_2_0 a0_1_2_1 a0_1_2_2 1073741824) fun r8 => cb (decide (r8 = 0)) (p_catalog_CheckRow_l0 L a0_1_0_0 a0_1_0_1 a0_1_0_2 a0_1_1_0 a0_1_1_1 a0_1_1_2 a0_1_2_0 a0_1_2_1 a0_1_2_2 tl (s2 + 1)) (some (.inr r8))) (none)))
def p_catalog_CheckRow_l1 (L : Nat) (a0_4 : List Int) : List Int → Int → Option (Sum Unit Int)
  | [], s15 => some (.inl ())
  | x14 :: tl, s15 => if x14 < 1 then (some (.inr 4)) else (if x14 > 1048576 then (some (.inr 4)) else (if s15 > 0 then (bnd (idx a0_4 (i64.wrap (s15 - 1))) fun x17 => if x14 ≤ x17 then (some (.inr 11)) else (p_catalog_CheckRow_l1 L a0_4 tl (s15 + 1))) else (p_catalog_CheckRow_l1 L a0_4 tl (s15 + 1))))
def p_catalog_CheckRow (L : Nat) (a0_0 : Int) (a0_1_0_0 : Int) (a0_1_0_1 : Int) (a0_1_0_2 : Bool) (a0_1_1_0 : Int) (a0_1_1_1 : Int) (a0_1_1_2 : Bool) (a0_1_2_0 : Int) (a0_1_2_1 : Int) (a0_1_2_2 : Bool) (a0_2_0 : Int) (a0_2_1 : Int) (a0_2_2 : Bool) (a0_3_0 : Int) (a0_3_1 : Int) (a0_3_2 : Bool) (a0_4 : List Int) (a0_5 : Int) : Option Int := if a0_0 < 1 then (some 4) else (if a0_0 > 2147483647 then (some 4) else (rq (3 < L) <| bnd (p_catalog_CheckRow_l0 L a0_1_0_0 a0_1_0_1 a0_1_0_2 a0_1_1_0 a0_1_1_1 a0_1_1_2 a0_1_2_0 a0_1_2_1 a0_1_2_2 3 0) fun o9 => match o9 with | (.inl o9_0) => (bnd (p_catalog_ends_Quanta L a0_2_0 a0_2_1 a0_2_2 1125899906842624) fun r11 => bnd (p_catalog_ends_Tick L a0_3_0 a0_3_1 a0_3_2 17592186044416) fun r12 => bnd (p_cmp_Or_Errno L ([r11, r12])) fun r13 => cb (decide (r13 = 0)) (cb (decide ((a0_4.length : Int) = 0)) (some 3) (if (a0_4.length : Int) > 8 then (some 2) else (rq (a0_4.length < L) <| bnd (p_catalog_CheckRow_l1 L a0_4 a0_4 0) fun o18 => match o18 with | (.inl o18_0) => (if a0_5 < 0 then (some 4) else (if a0_5 > 3 then (some 4) else (some 0))) | (.inr o18_1) => (some o18_1)))) (some r13)) | (.inr o9_1) => (some o9_1)))
attribute [local go_sem] Ev.putR_s Ev.putR_0 Ev.thenO_s Ev.thenO_0 Ev.seqR_n Ev.seqR_e Ev.seqR_r Ev.seqR_0 Ev.blkR_e Ev.blkR_n Ev.blkR_r Ev.blkR_0 Ev.normR_s Ev.normR_0 Ev.outR_r Ev.outR_n Ev.outR_0 Ev.retS_s Ev.retS_0 Ev.pureO_s Ev.pureO_0 Ev.topR_0 Ev.topR_t Ev.topR_t0 Ev.oneL_0 Ev.oneL_s Ev.topR_d Ev.topR_nils Ev.topR_agg Ev.topR_rs Ev.evOp_move Ev.evOp_assign Ev.evOp_pick Ev.evOp_alloc Ev.evOp_box Ev.evOp_build Ev.evOp_buildSlice Ev.evOp_load Ev.evOp_store Ev.evOp_makeMap Ev.evOp_lookup Ev.evOp_mapUpdate Ev.evOp_insert Ev.evOp_nilCheck Ev.evOp_binOp Ev.evOp_unOp Ev.evOp_convert Ev.evOp_makeFunc Ev.evOp_makeSlice Ev.evOp_slice Ev.evOp_fieldAddr Ev.evOp_field Ev.evOp_indexAddr Ev.evOp_index Ev.evOp_extract Ev.evOp_call Ev.evOp_append Ev.evOp_clear Ev.evOp_len Ev.evLen_d Ev.evLen_rs Ev.evLen_nils Ev.evLen_nila Ev.evLen_mp Ev.evOp_min Ev.evOp_max Ev.condR_b Ev.condR_t Ev.evOps_nil Ev.evOps_plain Ev.evOps_guard Ev.runG_eq Ev.skipG_eq Ev.condL_tt Ev.condL_ff Ev.condL_tf Ev.condL_ft Ev.condL_u Ev.condC_t Ev.condC_f Ev.evC_skip Ev.evC_ret Ev.evC_exit Ev.evC_label Ev.evC_region Ev.evC_draw Ev.evC_seq Ev.evC_cond Ev.evC_block Ev.evC_loop Ev.fin_d Ev.fin_nila Ev.fin_nils Ev.fin_agg_ Ev.fin_rs Ev.finS_s Ev.mapO_fin Ev.upd_upd Ev.argv_d Ev.argv_nila Ev.argv_nils Ev.argv_agg Ev.argv_rs Ev.argv_p Ev.fk_low Ev.appendTo_nils Ev.appendTo_nila Ev.appendTo_rs Ev.consV_d Ev.consV_agg Ev.consV_p Ev.consV_rs Ev.consV_nila Ev.consV_nils Ev.consV_fn Ev.consV_und Ev.consV_jk Ev.consV_grown Ev.topR_grown Ev.len_grown Ev.consV_nilm Ev.consV_mp Ev.sameK_i Ev.sameK_s Ev.mget_0 Ev.mget_hit Ev.mget_miss Ev.mput_0 Ev.mput_hit Ev.mput_miss Ev.apartAll Ev.apartL Ev.apartV Ev.freeAll Ev.sel Ev.keyOfV Ev.evLookup Ev.evPut Ev.hintOk Ev.keyOk Ev.consP Ev.lookV Ev.guardV Ev.dstAt Ev.evPure Ev.evStore Ev.evBin Ev.evBinO Ev.evNil Ev.isNilC Ev.evUn Ev.evConv Ev.evSlice Ev.optI Ev.foldI Ev.capsOk Ev.noTup Ev.nth Ev.setN Ev.killAt Ev.pad Ev.V.get Ev.V.put Ev.putD Ev.newBlk Ev.upd Ev.keq Ev.empty Ev.evCall Ev.V.args Ev.argP Ev.callOf Ev.evNilP Ev.isNilP Ev.look Ev.V.view.views Ev.V.view Ev.V.toD Ev.V.toD.V.toDs Ev.V.pure.pures Ev.V.pure Ev.D.flat.flats Ev.D.flat Ev.mkAgg Ev.allD Ev.aggParts Ev.setParts Ev.setElems Ev.getPath Ev.setPath Ev.subL Ev.eqD Ev.eqD.eqDs Ev.and2 Ev.strCut Ev.evalT Ev.constT Ev.evArgs Ev.mask Ev.maskOf Ev.tableOf Ev.compT Ev.resV Ev.retV Ev.mapO Ev.eT_nils Ev.ag_t Ev.ag_f Ev.ag_0 Ev.ag_n Ev.mx_u64 Ev.mx_u32 Ev.mx_u16 Ev.mx_u8 Ev.sg_i64 Ev.sg_i32 Ev.sg_i16 Ev.sg_i8 Ev.sg_u64 Ev.sg_u32 Ev.sg_u16 Ev.sg_u8 Ev.mapE_i Ev.mapV_nil Ev.hT_nilm Ev.mget_map Ev.mput_map Ev.mapV_put Ev.mapV_half Ev.hT_nila Ev.eO_nila Ev.pL_nila Ev.evLen_gl Ev.r_nila Ev.frzO_n Ev.frzO_e Ev.frzO_r Ev.frzO_0 Ev.mb_z Ev.mb_0 Ev.mb_s Ev.frzL_t Ev.frzL_f Ev.frzL_0 Ev.frzT_nils Ev.frzT_rs Ev.frzT_p Ev.frzK_i Ev.keyIn_i Ev.rI_nil Ev.rI_cons Ev.rI_row Ev.rI_app Ev.r_d Ev.r_nils Ev.r_agg Ev.r_rs Ev.r_gl Ev.vw_row Ev.vw_app Ev.appO_s Ev.frzT_gl Ev.allD_gl Ev.killAt_i Ev.tkOne_i Ev.hT_agg Ev.hT_vagg Ev.hT_int Ev.hT_bool Ev.hT_str Ev.hT_sl Ev.hT_ptr Ev.hT_np Ev.hT_p Ev.hT_rs Ev.hT_mp Ev.hT_nils Ev.hT_fn Ev.hT_jk Ev.hT_gl Ev.eO_sl Ev.eO_nils Ev.eO_rs Ev.eT_sl Ev.eT_rs Ev.pL_str Ev.pL_sl Ev.pL_rs Ev.pL_nils Ev.pL_min Ev.pL_max Ev.len_glB Ev.noTup_gl Ev.rowV_len Ev.rowV_nil Ev.rowV_cons Ev.rowV_append Ev.rowV_set Ev.rowV_replicate Ev.nth_row Ev.row_take Ev.row_drop Ev.toDs_row Ev.fin_row Ev.map_row Ev.map_take_ Ev.map_drop_ Ev.Bk_i Ev.GlB_0 Ev.GlB_mk Ev.gl_nil Ev.gl_cons Ev.gl_snoc Ev.gl_setN Ev.appendTo_gl Ev.consV_gl Ev.elems_gl Ev.fin_gl Ev.view_gl Ev.argv_gl Ev.topR_gl Ev.sp_z Ev.sp_0 Ev.sp_s Ev.km_z Ev.km_0 Ev.km_s Ev.beq_toList Ev.nc0 Ev.bq_t Ev.bq_f Ev.bodyN Ev.le_maxRow Int.cast_ofNat_Int IntWalk.i64_in IntWalk.u64_in IntWalk.u8_in beq_self_eq_true Bool.true_beq Bool.false_beq Bool.and_true Bool.true_and Bool.false_and Bool.and_false Bool.and_self Bool.not_true Bool.not_false Bool.not_eq_true cond_true cond_false if_true if_false and_true true_and and_self decide_true decide_false Bool.or_true Bool.true_or Bool.or_false Bool.false_or List.isEmpty List.isEmpty_nil List.size_toArray List.map List.length_map List.length_cons List.length_nil Option.map Option.bind Option.getD Option.isSome List.replicate Bool.false_eq_true implies_true false_implies forall_const Array.toList Array.isEmpty List.append List.nil_append List.cons_append List.drop_zero List.take_length List.take_succ_cons List.take_zero List.take_nil List.getElem?_map List.getElem?_cons_zero List.getElem?_cons_succ List.getElem?_nil List.append_nil eq_self Int.toNat_natCast List.length_append List.length_set Nat.zero_add Nat.add_zero List.length_replicate Nat.sub_zero Option.map_some Option.map_none Int.le_refl Nat.le_refl Int.natCast_nonneg List.map_append
attribute [local go_sem_proc] Nat.reduceAdd Nat.reduceSub Nat.reduceMul Nat.reduceEqDiff Nat.reduceBEq Nat.reduceLT Nat.reduceLeDiff Nat.reducePow Int.reduceToNat Int.reduceLT Int.reduceLE Int.reduceGT Int.reduceGE Int.reduceEq Int.reduceNeg Int.reduceAdd Int.reduceSub Int.reduceMul reduceCtorEq
attribute [local go_sem_proc ↓] reduceIte
noncomputable def G_catalog_CheckRow (L : Nat) : Specs := [(100, s_cmp_Or_Errno L), (125, s_catalog_ends_Coord L), (126, s_catalog_ends_Quanta L), (127, s_catalog_ends_Tick L)]
noncomputable def T_catalog_CheckRow : Table := tableOf [(45, en45)]
theorem Go_catalog_CheckRow (L : Nat) (hL : L ≤ 4611686018427387904) : ∀ g s, Ev.look (G_catalog_CheckRow L) g = some s → SpecOk Try.prog g s := (specs_cons (ok_cmp_Or_Errno L hL) (specs_cons (ok_catalog_ends_Coord L hL) (specs_cons (ok_catalog_ends_Quanta L hL) (specs_cons (ok_catalog_ends_Tick L hL) specs_nil))))
theorem To_catalog_CheckRow (L : Nat) : TableOk Try.prog ((G_catalog_CheckRow L).map (·.1)) T_catalog_CheckRow := (table_cons Try.func45 (by kernel_rfl) (by kernel_rfl) table_nil)
theorem lk_catalog_CheckRow_100 (L : Nat) : Ev.look (G_catalog_CheckRow L) 100 = some (s_cmp_Or_Errno L) := nr rfl
theorem lk_catalog_CheckRow_125 (L : Nat) : Ev.look (G_catalog_CheckRow L) 125 = some (s_catalog_ends_Coord L) := nr rfl
theorem lk_catalog_CheckRow_126 (L : Nat) : Ev.look (G_catalog_CheckRow L) 126 = some (s_catalog_ends_Quanta L) := nr rfl
theorem lk_catalog_CheckRow_127 (L : Nat) : Ev.look (G_catalog_CheckRow L) 127 = some (s_catalog_ends_Tick L) := nr rfl
attribute [local go_sem] Ty.tk3 Ty.ik3 Ty.ek3 Ty.zv3 Ty.by3 Ty.so3 Ty.tk4 Ty.ub4 Ty.ek4 Ty.zv4 Ty.by4 Ty.so4 Ty.tk22 Ty.zv22 Ty.by22 Ty.so22 Ty.tk24 Ty.ik24 Ty.ek24 Ty.zv24 Ty.by24 Ty.so24 Ty.tk27 Ty.ik27 Ty.ek27 Ty.zv27 Ty.by27 Ty.so27 Ty.tk35 Ty.ct35 Ty.ek35 Ty.zv35 Ty.by35 Ty.so35 Ty.tk62 Ty.ik62 Ty.ek62 Ty.zv62 Ty.by62 Ty.so62 Ty.tk64 Ty.ct64 Ty.ek64 Ty.zv64 Ty.by64 Ty.so64 Ty.tk66 Ty.ct66 Ty.ek66 Ty.zv66 Ty.by66 Ty.so66 Ty.tk72 Ty.ik72 Ty.ek72 Ty.zv72 Ty.by72 Ty.so72 Ty.tk87 Ty.ct87 Ty.ek87 Ty.zv87 Ty.by87 Ty.so87 Ty.tk89 Ty.ct89 Ty.zv89 Ty.by89 Ty.so89 Ty.tk168 Ty.ct168 Ty.zv168 Ty.by168 Ty.so168 Ty.tk195 Ty.zv195 Ty.by195 Ty.so195 Ty.k22_e Ty.k35_e Ty.k64_e Ty.k66_e Ty.k87_e Ty.k89_e Ty.k168_e Ty.k195_e E.dw45_10 E.kl45_10 E.nc45_10 E.mk45_0 E.mk45_3 E.mk45_1000001 E.mk45_1000002 E.mk45_1000003 E.mk45_1000004 E.mk45_1000005 E.mk45_1000006 E.mk45_1000000 E.fz45_0 E.fi45_0 E.fz45_3 E.fi45_3 E.lb45_0 E.lb45_3 lk_catalog_CheckRow_100 lk_catalog_CheckRow_125 lk_catalog_CheckRow_126 lk_catalog_CheckRow_127 s_cmp_Or_Errno_run s_catalog_ends_Coord_run s_catalog_ends_Quanta_run s_catalog_ends_Tick_run loopN loops Try.f45
def Q0_p_catalog_CheckRow_l0 (a0_1_0_0 : Int) (a0_1_0_1 : Int) (a0_1_0_2 : Bool) (a0_1_1_0 : Int) (a0_1_1_1 : Int) (a0_1_1_2 : Bool) (a0_1_2_0 : Int) (a0_1_2_1 : Int) (a0_1_2_2 : Bool) (a0_0 : Int) (a0_2_0 : Int) (a0_2_1 : Int) (a0_2_2 : Bool) (a0_3_0 : Int) (a0_3_1 : Int) (a0_3_2 : Bool) (a0_4 : List Int) (a0_5 : Int) (u : Unit) (z : Out) : Prop := ∃ env st, z = some (.exit 0, env, st) ∧ env = sp 94 0 [(1, .p (0, 1) (st (0, 1)).ver 0 [])] ∧ Bk (st (0, 1)) 89 [.d (.agg 89 [.int .i64 a0_0, .agg 66 [.agg 64 [.int .i64 a0_1_0_0, .int .i64 a0_1_0_1, .bool a0_1_0_2], .agg 64 [.int .i64 a0_1_1_0, .int .i64 a0_1_1_1, .bool a0_1_1_2], .agg 64 [.int .i64 a0_1_2_0, .int .i64 a0_1_2_1, .bool a0_1_2_2]], .agg 35 [.int .i64 a0_2_0, .int .i64 a0_2_1, .bool a0_2_2], .agg 87 [.int .i64 a0_3_0, .int .i64 a0_3_1, .bool a0_3_2], .sl 3 (a0_4.map (D.int .i64)), .int .i64 a0_5])]
def Q1_p_catalog_CheckRow_l0 (a0_1_0_0 : Int) (a0_1_0_1 : Int) (a0_1_0_2 : Bool) (a0_1_1_0 : Int) (a0_1_1_1 : Int) (a0_1_1_2 : Bool) (a0_1_2_0 : Int) (a0_1_2_1 : Int) (a0_1_2_2 : Bool) (a0_0 : Int) (a0_2_0 : Int) (a0_2_1 : Int) (a0_2_2 : Bool) (a0_3_0 : Int) (a0_3_1 : Int) (a0_3_2 : Bool) (a0_4 : List Int) (a0_5 : Int) (u : Int) (z : Out) : Prop := ∃ env st, z = some (.ret, env, st) ∧ env = sp 94 0 [(2, .d (.int .i64 u))]
def Q_p_catalog_CheckRow_l0 (a0_1_0_0 : Int) (a0_1_0_1 : Int) (a0_1_0_2 : Bool) (a0_1_1_0 : Int) (a0_1_1_1 : Int) (a0_1_1_2 : Bool) (a0_1_2_0 : Int) (a0_1_2_1 : Int) (a0_1_2_2 : Bool) (a0_0 : Int) (a0_2_0 : Int) (a0_2_1 : Int) (a0_2_2 : Bool) (a0_3_0 : Int) (a0_3_1 : Int) (a0_3_2 : Bool) (a0_4 : List Int) (a0_5 : Int) (o : Sum Unit Int) (z : Out) : Prop := match o with | (.inl u) => Q0_p_catalog_CheckRow_l0 a0_1_0_0 a0_1_0_1 a0_1_0_2 a0_1_1_0 a0_1_1_1 a0_1_1_2 a0_1_2_0 a0_1_2_1 a0_1_2_2 a0_0 a0_2_0 a0_2_1 a0_2_2 a0_3_0 a0_3_1 a0_3_2 a0_4 a0_5 u z | (.inr u) => Q1_p_catalog_CheckRow_l0 a0_1_0_0 a0_1_0_1 a0_1_0_2 a0_1_1_0 a0_1_1_1 a0_1_1_2 a0_1_2_0 a0_1_2_1 a0_1_2_2 a0_0 a0_2_0 a0_2_1 a0_2_2 a0_3_0 a0_3_1 a0_3_2 a0_4 a0_5 u z
theorem l_p_catalog_CheckRow_l0 (L : Nat) (hL : L ≤ 4611686018427387904) (a0_1_0_0 : Int) (a0_1_0_1 : Int) (a0_1_0_2 : Bool) (a0_1_1_0 : Int) (a0_1_1_1 : Int) (a0_1_1_2 : Bool) (a0_1_2_0 : Int) (a0_1_2_1 : Int) (a0_1_2_2 : Bool) (a0_0 : Int) (a0_2_0 : Int) (a0_2_1 : Int) (a0_2_2 : Bool) (a0_3_0 : Int) (a0_3_1 : Int) (a0_3_2 : Bool) (a0_4 : List Int) (a0_5 : Int) : ∀ (tl n : Nat) (s2 : Int) (env : List V) (st : Store) (o : Sum Unit Int), tl < n → Cnt 3 s2 tl → mask (maskOf en45.ms 0) env = sp 94 0 [(1, .p (0, 1) (st (0, 1)).ver 0 []), (26, .d (.agg 168 [.agg 64 [.int .i64 a0_1_0_0, .int .i64 a0_1_0_1, .bool a0_1_0_2], .agg 64 [.int .i64 a0_1_1_0, .int .i64 a0_1_1_1, .bool a0_1_1_2], .agg 64 [.int .i64 a0_1_2_0, .int .i64 a0_1_2_1, .bool a0_1_2_2]])), (27, .d (.int .i64 s2))] → Bk (st (0, 1)) 89 [.d (.agg 89 [.int .i64 a0_0, .agg 66 [.agg 64 [.int .i64 a0_1_0_0, .int .i64 a0_1_0_1, .bool a0_1_0_2], .agg 64 [.int .i64 a0_1_1_0, .int .i64 a0_1_1_1, .bool a0_1_1_2], .agg 64 [.int .i64 a0_1_2_0, .int .i64 a0_1_2_1, .bool a0_1_2_2]], .agg 35 [.int .i64 a0_2_0, .int .i64 a0_2_1, .bool a0_2_2], .agg 87 [.int .i64 a0_3_0, .int .i64 a0_3_1, .bool a0_3_2], .sl 3 (a0_4.map (D.int .i64)), .int .i64 a0_5])] → p_catalog_CheckRow_l0 L a0_1_0_0 a0_1_0_1 a0_1_0_2 a0_1_1_0 a0_1_1_1 a0_1_1_2 a0_1_2_0 a0_1_2_1 a0_1_2_2 tl s2  = some o →
    Q_p_catalog_CheckRow_l0 a0_1_0_0 a0_1_0_1 a0_1_0_2 a0_1_1_0 a0_1_1_1 a0_1_1_2 a0_1_2_0 a0_1_2_1 a0_1_2_2 a0_0 a0_2_0 a0_2_1 a0_2_2 a0_3_0 a0_3_1 a0_3_2 a0_4 a0_5 o (iter (evC Try.prog (G_catalog_CheckRow L) (evF Try.prog (G_catalog_CheckRow L) T_catalog_CheckRow L 0) L en45.ms 0 0 lb45_0) (maskOf en45.ms 0) n env st) := by
  intro tl
  induction tl with
  | zero =>
    intro n s2  env st o hn hR he hb0 h
    obtain ⟨n, rfl⟩ : ∃ m, n = m + 1 := ⟨n - 1, by omega⟩
    obtain ⟨be0, bv0, bl0⟩ := hb0
    generalize hQ : Q_p_catalog_CheckRow_l0 a0_1_0_0 a0_1_0_1 a0_1_0_2 a0_1_1_0 a0_1_1_1 a0_1_1_2 a0_1_2_0 a0_1_2_1 a0_1_2_2 a0_0 a0_2_0 a0_2_1 a0_2_2 a0_3_0 a0_3_1 a0_3_2 a0_4 a0_5 = Q
    have g0 := cnt_nil hR
    rw [iter, he]
    clear he
    generalize hK : iter _ _ n = K
    rw [p_catalog_CheckRow_l0] at h
    revert h
    rintro ⟨⟩
    simp only [go_sem, *]
    subst hQ
    refine (⟨_, _, rfl, ?_, ?_⟩ : Q0_p_catalog_CheckRow_l0 _ _ _ _ _ _ _ _ _ _ _ _ _ _ _ _ _ _ _ _)
    all_goals simp only [go_sem, *]
  | succ tl ih =>
    intro n s2  env st o hn hR he hb0 h
    obtain ⟨n, rfl⟩ : ∃ m, n = m + 1 := ⟨n - 1, by omega⟩
    obtain ⟨be0, bv0, bl0⟩ := hb0
    generalize hQ : Q_p_catalog_CheckRow_l0 a0_1_0_0 a0_1_0_1 a0_1_0_2 a0_1_1_0 a0_1_1_1 a0_1_1_2 a0_1_2_0 a0_1_2_1 a0_1_2_2 a0_0 a0_2_0 a0_2_1 a0_2_2 a0_3_0 a0_3_1 a0_3_2 a0_4 a0_5 = Q at ih ⊢
    replace ih : Hold _ := ih
    replace hR := cnt_s hR
    obtain ⟨g0, g1, g3, hR⟩ := hR
    rw [iter, he]
    clear he
    generalize hK : iter _ _ n = K
    rw [p_catalog_CheckRow_l0] at h
    revert h
    refine cb_i (fun c1 => ?_) (fun c1 => ?_)
    · have c2 : 0 ≤ s2 := by have := of_decide_eq_true c1; omega
      have c3 : s2 < 3 := by have := of_decide_eq_true c1; omega
      have c4 : s2.toNat = 0 := by have := of_decide_eq_true c1; omega
      refine bnd_i fun r6 c5 => ?_
      refine cb_i (fun c6 => ?_) (fun c6 => ?_)
      · intro h
        simp only [go_sem, *]
        subst hK
        refine ih n (s2 + 1)  _ _ _ (by omega) hR ?_ ?_ h
        all_goals simp only [go_sem, *]
      · rintro ⟨⟩
        simp only [go_sem, *]
        subst hQ
        refine (⟨_, _, rfl, ?_⟩ : Q1_p_catalog_CheckRow_l0 _ _ _ _ _ _ _ _ _ _ _ _ _ _ _ _ _ _ _ _)
        all_goals simp only [go_sem, *]
    · refine cb_i (fun c7 => ?_) (fun c7 => ?_)
      · have c8 : 0 ≤ s2 := by have := of_decide_eq_true c7; omega
        have c9 : s2 < 3 := by have := of_decide_eq_true c7; omega
        have c10 : s2.toNat = 1 := by have := of_decide_eq_true c7; omega
        refine bnd_i fun r7 c11 => ?_
        refine cb_i (fun c12 => ?_) (fun c12 => ?_)
        · intro h
          simp only [go_sem, *]
          subst hK
          refine ih n (s2 + 1)  _ _ _ (by omega) hR ?_ ?_ h
          all_goals simp only [go_sem, *]
        · rintro ⟨⟩
          simp only [go_sem, *]
          subst hQ
          refine (⟨_, _, rfl, ?_⟩ : Q1_p_catalog_CheckRow_l0 _ _ _ _ _ _ _ _ _ _ _ _ _ _ _ _ _ _ _ _)
          all_goals simp only [go_sem, *]
      · refine cb_i (fun c13 => ?_) (fun c13 => ?_)
        · have c14 : 0 ≤ s2 := by have := of_decide_eq_true c13; omega
          have c15 : s2 < 3 := by have := of_decide_eq_true c13; omega
          have c16 : s2.toNat = 2 := by have := of_decide_eq_true c13; omega
          refine bnd_i fun r8 c17 => ?_
          refine cb_i (fun c18 => ?_) (fun c18 => ?_)
          · intro h
            simp only [go_sem, *]
            subst hK
            refine ih n (s2 + 1)  _ _ _ (by omega) hR ?_ ?_ h
            all_goals simp only [go_sem, *]
          · rintro ⟨⟩
            simp only [go_sem, *]
            subst hQ
            refine (⟨_, _, rfl, ?_⟩ : Q1_p_catalog_CheckRow_l0 _ _ _ _ _ _ _ _ _ _ _ _ _ _ _ _ _ _ _ _)
            all_goals simp only [go_sem, *]
        · intro h; cases h
def Q0_p_catalog_CheckRow_l1 (a0_4 : List Int) (a0_0 : Int) (a0_1_0_0 : Int) (a0_1_0_1 : Int) (a0_1_0_2 : Bool) (a0_1_1_0 : Int) (a0_1_1_1 : Int) (a0_1_1_2 : Bool) (a0_1_2_0 : Int) (a0_1_2_1 : Int) (a0_1_2_2 : Bool) (a0_2_0 : Int) (a0_2_1 : Int) (a0_2_2 : Bool) (a0_3_0 : Int) (a0_3_1 : Int) (a0_3_2 : Bool) (a0_5 : Int) (u : Unit) (z : Out) : Prop := ∃ env st, z = some (.exit 3, env, st) ∧ env = sp 94 0 [(1, .p (0, 1) (st (0, 1)).ver 0 [])] ∧ Bk (st (0, 1)) 89 [.d (.agg 89 [.int .i64 a0_0, .agg 66 [.agg 64 [.int .i64 a0_1_0_0, .int .i64 a0_1_0_1, .bool a0_1_0_2], .agg 64 [.int .i64 a0_1_1_0, .int .i64 a0_1_1_1, .bool a0_1_1_2], .agg 64 [.int .i64 a0_1_2_0, .int .i64 a0_1_2_1, .bool a0_1_2_2]], .agg 35 [.int .i64 a0_2_0, .int .i64 a0_2_1, .bool a0_2_2], .agg 87 [.int .i64 a0_3_0, .int .i64 a0_3_1, .bool a0_3_2], .sl 3 (a0_4.map (D.int .i64)), .int .i64 a0_5])]
def Q1_p_catalog_CheckRow_l1 (a0_4 : List Int) (a0_0 : Int) (a0_1_0_0 : Int) (a0_1_0_1 : Int) (a0_1_0_2 : Bool) (a0_1_1_0 : Int) (a0_1_1_1 : Int) (a0_1_1_2 : Bool) (a0_1_2_0 : Int) (a0_1_2_1 : Int) (a0_1_2_2 : Bool) (a0_2_0 : Int) (a0_2_1 : Int) (a0_2_2 : Bool) (a0_3_0 : Int) (a0_3_1 : Int) (a0_3_2 : Bool) (a0_5 : Int) (u : Int) (z : Out) : Prop := ∃ env st, z = some (.ret, env, st) ∧ env = sp 94 0 [(2, .d (.int .i64 u))]
def Q_p_catalog_CheckRow_l1 (a0_4 : List Int) (a0_0 : Int) (a0_1_0_0 : Int) (a0_1_0_1 : Int) (a0_1_0_2 : Bool) (a0_1_1_0 : Int) (a0_1_1_1 : Int) (a0_1_1_2 : Bool) (a0_1_2_0 : Int) (a0_1_2_1 : Int) (a0_1_2_2 : Bool) (a0_2_0 : Int) (a0_2_1 : Int) (a0_2_2 : Bool) (a0_3_0 : Int) (a0_3_1 : Int) (a0_3_2 : Bool) (a0_5 : Int) (o : Sum Unit Int) (z : Out) : Prop := match o with | (.inl u) => Q0_p_catalog_CheckRow_l1 a0_4 a0_0 a0_1_0_0 a0_1_0_1 a0_1_0_2 a0_1_1_0 a0_1_1_1 a0_1_1_2 a0_1_2_0 a0_1_2_1 a0_1_2_2 a0_2_0 a0_2_1 a0_2_2 a0_3_0 a0_3_1 a0_3_2 a0_5 u z | (.inr u) => Q1_p_catalog_CheckRow_l1 a0_4 a0_0 a0_1_0_0 a0_1_0_1 a0_1_0_2 a0_1_1_0 a0_1_1_1 a0_1_1_2 a0_1_2_0 a0_1_2_1 a0_1_2_2 a0_2_0 a0_2_1 a0_2_2 a0_3_0 a0_3_1 a0_3_2 a0_5 u z
theorem l_p_catalog_CheckRow_l1 (L : Nat) (hL : L ≤ 4611686018427387904) (a0_4 : List Int) (a0_0 : Int) (a0_1_0_0 : Int) (a0_1_0_1 : Int) (a0_1_0_2 : Bool) (a0_1_1_0 : Int) (a0_1_1_1 : Int) (a0_1_1_2 : Bool) (a0_1_2_0 : Int) (a0_1_2_1 : Int) (a0_1_2_2 : Bool) (a0_2_0 : Int) (a0_2_1 : Int) (a0_2_2 : Bool) (a0_3_0 : Int) (a0_3_1 : Int) (a0_3_2 : Bool) (a0_5 : Int) : ∀ (tl : List Int) (n : Nat) (s15 : Int) (env : List V) (st : Store) (o : Sum Unit Int), tl.length < n → Rng a0_4 s15 tl → mask (maskOf en45.ms 3) env = sp 94 0 [(1, .p (0, 1) (st (0, 1)).ver 0 []), (58, .d (.sl 3 (a0_4.map (D.int .i64)))), (59, .d (.int .i64 (a0_4.length : Int))), (60, .d (.int .i64 s15))] → Bk (st (0, 1)) 89 [.d (.agg 89 [.int .i64 a0_0, .agg 66 [.agg 64 [.int .i64 a0_1_0_0, .int .i64 a0_1_0_1, .bool a0_1_0_2], .agg 64 [.int .i64 a0_1_1_0, .int .i64 a0_1_1_1, .bool a0_1_1_2], .agg 64 [.int .i64 a0_1_2_0, .int .i64 a0_1_2_1, .bool a0_1_2_2]], .agg 35 [.int .i64 a0_2_0, .int .i64 a0_2_1, .bool a0_2_2], .agg 87 [.int .i64 a0_3_0, .int .i64 a0_3_1, .bool a0_3_2], .sl 3 (a0_4.map (D.int .i64)), .int .i64 a0_5])] → p_catalog_CheckRow_l1 L a0_4 tl s15  = some o →
    Q_p_catalog_CheckRow_l1 a0_4 a0_0 a0_1_0_0 a0_1_0_1 a0_1_0_2 a0_1_1_0 a0_1_1_1 a0_1_1_2 a0_1_2_0 a0_1_2_1 a0_1_2_2 a0_2_0 a0_2_1 a0_2_2 a0_3_0 a0_3_1 a0_3_2 a0_5 o (iter (evC Try.prog (G_catalog_CheckRow L) (evF Try.prog (G_catalog_CheckRow L) T_catalog_CheckRow L 0) L en45.ms 0 3 lb45_3) (maskOf en45.ms 3) n env st) := by
  intro tl
  induction tl with
  | nil =>
    intro n s15  env st o hn hR he hb0 h
    obtain ⟨n, rfl⟩ : ∃ m, n = m + 1 := ⟨n - 1, by omega⟩
    obtain ⟨be0, bv0, bl0⟩ := hb0
    generalize hQ : Q_p_catalog_CheckRow_l1 a0_4 a0_0 a0_1_0_0 a0_1_0_1 a0_1_0_2 a0_1_1_0 a0_1_1_1 a0_1_1_2 a0_1_2_0 a0_1_2_1 a0_1_2_2 a0_2_0 a0_2_1 a0_2_2 a0_3_0 a0_3_1 a0_3_2 a0_5 = Q
    have g0 := rng_nil hR
    rw [iter, he]
    clear he
    generalize hK : iter _ _ n = K
    rw [p_catalog_CheckRow_l1] at h
    revert h
    rintro ⟨⟩
    simp only [go_sem, *]
    subst hQ
    refine (⟨_, _, rfl, ?_, ?_⟩ : Q0_p_catalog_CheckRow_l1 _ _ _ _ _ _ _ _ _ _ _ _ _ _ _ _ _ _ _ _)
    all_goals simp only [go_sem, *]
  | cons x14 tl ih =>
    intro n s15  env st o hn hR he hb0 h
    obtain ⟨n, rfl⟩ : ∃ m, n = m + 1 := ⟨n - 1, by omega⟩
    obtain ⟨be0, bv0, bl0⟩ := hb0
    generalize hQ : Q_p_catalog_CheckRow_l1 a0_4 a0_0 a0_1_0_0 a0_1_0_1 a0_1_0_2 a0_1_1_0 a0_1_1_1 a0_1_1_2 a0_1_2_0 a0_1_2_1 a0_1_2_2 a0_2_0 a0_2_1 a0_2_2 a0_3_0 a0_3_1 a0_3_2 a0_5 = Q at ih ⊢
    replace ih : Hold _ := ih
    replace hR := rng_s hR
    obtain ⟨g0, g1, g2, g3, hR⟩ := hR
    rw [iter, he]
    clear he
    generalize hK : iter _ _ n = K
    rw [p_catalog_CheckRow_l1] at h
    revert h
    refine ite_i (fun c1 => ?_) (fun c1 => ?_)
    · rintro ⟨⟩
      simp only [go_sem, *]
      subst hQ
      refine (⟨_, _, rfl, ?_⟩ : Q1_p_catalog_CheckRow_l1 _ _ _ _ _ _ _ _ _ _ _ _ _ _ _ _ _ _ _ _)
      all_goals simp only [go_sem, *]
    · refine ite_i (fun c2 => ?_) (fun c2 => ?_)
      · rintro ⟨⟩
        simp only [go_sem, *]
        subst hQ
        refine (⟨_, _, rfl, ?_⟩ : Q1_p_catalog_CheckRow_l1 _ _ _ _ _ _ _ _ _ _ _ _ _ _ _ _ _ _ _ _)
        all_goals simp only [go_sem, *]
      · refine ite_i (fun c3 => ?_) (fun c3 => ?_)
        · refine idx_i fun x17 c4 c5 c6 => ?_
          refine ite_i (fun c7 => ?_) (fun c7 => ?_)
          · rintro ⟨⟩
            simp only [go_sem, *]
            subst hQ
            refine (⟨_, _, rfl, ?_⟩ : Q1_p_catalog_CheckRow_l1 _ _ _ _ _ _ _ _ _ _ _ _ _ _ _ _ _ _ _ _)
            all_goals simp only [go_sem, *]
          · intro h
            simp only [go_sem, *]
            subst hK
            refine ih n (s15 + 1)  _ _ _ (by simp only [List.length_cons] at hn; omega) hR ?_ ?_ h
            all_goals simp only [go_sem, *]
        · intro h
          simp only [go_sem, *]
          subst hK
          refine ih n (s15 + 1)  _ _ _ (by simp only [List.length_cons] at hn; omega) hR ?_ ?_ h
          all_goals simp only [go_sem, *]
theorem e_catalog_CheckRow (L : Nat) (hL : L ≤ 4611686018427387904) (a0_0 : Int) (a0_1_0_0 : Int) (a0_1_0_1 : Int) (a0_1_0_2 : Bool) (a0_1_1_0 : Int) (a0_1_1_1 : Int) (a0_1_1_2 : Bool) (a0_1_2_0 : Int) (a0_1_2_1 : Int) (a0_1_2_2 : Bool) (a0_2_0 : Int) (a0_2_1 : Int) (a0_2_2 : Bool) (a0_3_0 : Int) (a0_3_1 : Int) (a0_3_2 : Bool) (a0_4 : List Int) (a0_5 : Int) (res : Int) (h : p_catalog_CheckRow L a0_0 a0_1_0_0 a0_1_0_1 a0_1_0_2 a0_1_1_0 a0_1_1_1 a0_1_1_2 a0_1_2_0 a0_1_2_1 a0_1_2_2 a0_2_0 a0_2_1 a0_2_2 a0_3_0 a0_3_1 a0_3_2 a0_4 a0_5 = some res) : evTop Try.prog (G_catalog_CheckRow L) T_catalog_CheckRow L 1 45 [.agg 89 [.int .i64 a0_0, .agg 66 [.agg 64 [.int .i64 a0_1_0_0, .int .i64 a0_1_0_1, .bool a0_1_0_2], .agg 64 [.int .i64 a0_1_1_0, .int .i64 a0_1_1_1, .bool a0_1_1_2], .agg 64 [.int .i64 a0_1_2_0, .int .i64 a0_1_2_1, .bool a0_1_2_2]], .agg 35 [.int .i64 a0_2_0, .int .i64 a0_2_1, .bool a0_2_2], .agg 87 [.int .i64 a0_3_0, .int .i64 a0_3_1, .bool a0_3_2], .sl 3 (a0_4.map (D.int .i64)), .int .i64 a0_5]] = some [.int .i64 res] := by
  revert h
  unfold p_catalog_CheckRow evTop
  simp only [List.map]
  rw [evF_s (fn := Try.f45) (msk := en45.ms) (hT := by rfl) (hb := by rfl)]
  refine ite_i (fun c1 => ?_) (fun c1 => ?_)
  · rintro ⟨⟩
    simp only [go_sem, *]
  · refine ite_i (fun c2 => ?_) (fun c2 => ?_)
    · rintro ⟨⟩
      simp only [go_sem, *]
    · refine rq_i fun c3 => ?_
      refine bnd_i fun o9 ho4 => ?_
      intro h
      simp only [go_sem, *]
      generalize hz6 : iter _ _ _ _ _ = z5
      have hq7 : Q_p_catalog_CheckRow_l0 a0_1_0_0 a0_1_0_1 a0_1_0_2 a0_1_1_0 a0_1_1_1 a0_1_1_2 a0_1_2_0 a0_1_2_1 a0_1_2_2 a0_0 a0_2_0 a0_2_1 a0_2_2 a0_3_0 a0_3_1 a0_3_2 a0_4 a0_5 o9 z5 := by
        rw [← hz6]
        refine l_p_catalog_CheckRow_l0 L hL a0_1_0_0 a0_1_0_1 a0_1_0_2 a0_1_1_0 a0_1_1_1 a0_1_1_2 a0_1_2_0 a0_1_2_1 a0_1_2_2 a0_0 a0_2_0 a0_2_1 a0_2_2 a0_3_0 a0_3_1 a0_3_2 a0_4 a0_5 _ L 0  _ _ _ c3 (cnt_0 (by decide) (by decide)) ?_ ?_ ho4
        all_goals simp only [go_sem, *]
      clear hz6 ho4
      rcases o9 with o9_0 | o9_1
      · obtain ⟨_, st10, rfl, rfl, ⟨k81, k82, k83⟩⟩ := hq7
        dsimp only at h
        revert h
        refine bnd_i fun r11 c9 => ?_
        refine bnd_i fun r12 c10 => ?_
        refine bnd_i fun r13 c11 => ?_
        have c12 := s_cmp_Or_Errno_run L [r11, r12]
        simp only [go_sem] at c12
        refine cb_i (fun c13 => ?_) (fun c13 => ?_)
        · refine cb_i (fun c14 => ?_) (fun c14 => ?_)
          · rintro ⟨⟩
            simp only [go_sem, *]
          · refine ite_i (fun c15 => ?_) (fun c15 => ?_)
            · rintro ⟨⟩
              simp only [go_sem, *]
            · refine rq_i fun c16 => ?_
              refine bnd_i fun o18 ho17 => ?_
              intro h
              simp only [go_sem, *]
              generalize hz19 : iter _ _ _ _ _ = z18
              have hq20 : Q_p_catalog_CheckRow_l1 a0_4 a0_0 a0_1_0_0 a0_1_0_1 a0_1_0_2 a0_1_1_0 a0_1_1_1 a0_1_1_2 a0_1_2_0 a0_1_2_1 a0_1_2_2 a0_2_0 a0_2_1 a0_2_2 a0_3_0 a0_3_1 a0_3_2 a0_5 o18 z18 := by
                rw [← hz19]
                refine l_p_catalog_CheckRow_l1 L hL a0_4 a0_0 a0_1_0_0 a0_1_0_1 a0_1_0_2 a0_1_1_0 a0_1_1_1 a0_1_1_2 a0_1_2_0 a0_1_2_1 a0_1_2_2 a0_2_0 a0_2_1 a0_2_2 a0_3_0 a0_3_1 a0_3_2 a0_5 a0_4 L 0  _ _ _ c16 (rng_0 c16 hL) ?_ ?_ ho17
                all_goals simp only [go_sem, *]
              clear hz19 ho17
              rcases o18 with o18_0 | o18_1
              · obtain ⟨_, st19, rfl, rfl, ⟨k211, k212, k213⟩⟩ := hq20
                dsimp only at h
                revert h
                refine ite_i (fun c22 => ?_) (fun c22 => ?_)
                · rintro ⟨⟩
                  simp only [go_sem, *]
                · refine ite_i (fun c23 => ?_) (fun c23 => ?_)
                  · rintro ⟨⟩
                    simp only [go_sem, *]
                  · rintro ⟨⟩
                    simp only [go_sem, *]
              · obtain ⟨_, st20, rfl, rfl⟩ := hq20
                dsimp only at h
                revert h
                rintro ⟨⟩
                simp only [go_sem, *]
        · rintro ⟨⟩
          simp only [go_sem, *]
      · obtain ⟨_, st21, rfl, rfl⟩ := hq7
        dsimp only at h
        revert h
        rintro ⟨⟩
        simp only [go_sem, *]
noncomputable def s_catalog_CheckRow (L : Nat) : Ev.Spec := specP (cCons k89 cNil) (fun x => p_catalog_CheckRow L x.1.1 x.1.2.1.1.1 x.1.2.1.1.2.1 x.1.2.1.1.2.2.1 x.1.2.1.2.1.1 x.1.2.1.2.1.2.1 x.1.2.1.2.1.2.2.1 x.1.2.1.2.2.1.1 x.1.2.1.2.2.1.2.1 x.1.2.1.2.2.1.2.2.1 x.1.2.2.1.1 x.1.2.2.1.2.1 x.1.2.2.1.2.2.1 x.1.2.2.2.1.1 x.1.2.2.2.1.2.1 x.1.2.2.2.1.2.2.1 x.1.2.2.2.2.1 x.1.2.2.2.2.2.1) (fun r => [.int .i64 r])
theorem s_catalog_CheckRow_run (L : Nat) (a0_0 : Int) (a0_1_0_0 : Int) (a0_1_0_1 : Int) (a0_1_0_2 : Bool) (a0_1_1_0 : Int) (a0_1_1_1 : Int) (a0_1_1_2 : Bool) (a0_1_2_0 : Int) (a0_1_2_1 : Int) (a0_1_2_2 : Bool) (a0_2_0 : Int) (a0_2_1 : Int) (a0_2_2 : Bool) (a0_3_0 : Int) (a0_3_1 : Int) (a0_3_2 : Bool) (a0_4 : List Int) (a0_5 : Int) : (s_catalog_CheckRow L).run [.agg 89 [.int .i64 a0_0, .agg 66 [.agg 64 [.int .i64 a0_1_0_0, .int .i64 a0_1_0_1, .bool a0_1_0_2], .agg 64 [.int .i64 a0_1_1_0, .int .i64 a0_1_1_1, .bool a0_1_1_2], .agg 64 [.int .i64 a0_1_2_0, .int .i64 a0_1_2_1, .bool a0_1_2_2]], .agg 35 [.int .i64 a0_2_0, .int .i64 a0_2_1, .bool a0_2_2], .agg 87 [.int .i64 a0_3_0, .int .i64 a0_3_1, .bool a0_3_2], .sl 3 (a0_4.map (D.int .i64)), .int .i64 a0_5]] = (p_catalog_CheckRow L a0_0 a0_1_0_0 a0_1_0_1 a0_1_0_2 a0_1_1_0 a0_1_1_1 a0_1_1_2 a0_1_2_0 a0_1_2_1 a0_1_2_2 a0_2_0 a0_2_1 a0_2_2 a0_3_0 a0_3_1 a0_3_2 a0_4 a0_5).map fun r => [.int .i64 r] := specP_run (cCons k89 cNil) (fun x => p_catalog_CheckRow L x.1.1 x.1.2.1.1.1 x.1.2.1.1.2.1 x.1.2.1.1.2.2.1 x.1.2.1.2.1.1 x.1.2.1.2.1.2.1 x.1.2.1.2.1.2.2.1 x.1.2.1.2.2.1.1 x.1.2.1.2.2.1.2.1 x.1.2.1.2.2.1.2.2.1 x.1.2.2.1.1 x.1.2.2.1.2.1 x.1.2.2.1.2.2.1 x.1.2.2.2.1.1 x.1.2.2.2.1.2.1 x.1.2.2.2.1.2.2.1 x.1.2.2.2.2.1 x.1.2.2.2.2.2.1) (fun r => [.int .i64 r]) ((a0_0, ((a0_1_0_0, a0_1_0_1, a0_1_0_2, ()), (a0_1_1_0, a0_1_1_1, a0_1_1_2, ()), (a0_1_2_0, a0_1_2_1, a0_1_2_2, ()), ()), (a0_2_0, a0_2_1, a0_2_2, ()), (a0_3_0, a0_3_1, a0_3_2, ()), a0_4, a0_5, ()), ())
theorem ok_catalog_CheckRow (L : Nat) (hL : L ≤ 4611686018427387904) : SpecOk Try.prog 45 (s_catalog_CheckRow L) := specP_ok mixed (Go_catalog_CheckRow L hL) (To_catalog_CheckRow L) fun x r h => ⟨L, 1, e_catalog_CheckRow L hL x.1.1 x.1.2.1.1.1 x.1.2.1.1.2.1 x.1.2.1.1.2.2.1 x.1.2.1.2.1.1 x.1.2.1.2.1.2.1 x.1.2.1.2.1.2.2.1 x.1.2.1.2.2.1.1 x.1.2.1.2.2.1.2.1 x.1.2.1.2.2.1.2.2.1 x.1.2.2.1.1 x.1.2.2.1.2.1 x.1.2.2.1.2.2.1 x.1.2.2.2.1.1 x.1.2.2.2.1.2.1 x.1.2.2.2.1.2.2.1 x.1.2.2.2.2.1 x.1.2.2.2.2.2.1 r h⟩
end Go.Proofs.Ytnojehmbiceceaa.P
end
section
set_option linter.unusedVariables false
set_option linter.unusedSimpArgs false
set_option maxRecDepth 100000
namespace Go.Proofs.Ytnojehmbiceceaa.P
open Go.Ev Go.IntKind Go.Proofs.Ytnojehmbiceceaa Go.Proofs.Ytnojehmbiceceaa.Ty Go.Proofs.Ytnojehmbiceceaa.E
def p_catalog_Check_l0 (L : Nat) (a0 : List (Int × ((Int × Int × Bool × Unit) × (Int × Int × Bool × Unit) × (Int × Int × Bool × Unit) × Unit) × (Int × Int × Bool × Unit) × (Int × Int × Bool × Unit) × (List Int) × Int × Unit)) : List (Int × ((Int × Int × Bool × Unit) × (Int × Int × Bool × Unit) × (Int × Int × Bool × Unit) × Unit) × (Int × Int × Bool × Unit) × (Int × Int × Bool × Unit) × (List Int) × Int × Unit) → Int → Option (Sum Unit Int)
  | [], s2 => some (.inl ())
  | x1 :: tl, s2 => bnd (p_catalog_CheckRow L x1.1 x1.2.1.1.1 x1.2.1.1.2.1 x1.2.1.1.2.2.1 x1.2.1.2.1.1 x1.2.1.2.1.2.1 x1.2.1.2.1.2.2.1 x1.2.1.2.2.1.1 x1.2.1.2.2.1.2.1 x1.2.1.2.2.1.2.2.1 x1.2.2.1.1 x1.2.2.1.2.1 x1.2.2.1.2.2.1 x1.2.2.2.1.1 x1.2.2.2.1.2.1 x1.2.2.2.1.2.2.1 x1.2.2.2.2.1 x1.2.2.2.2.2.1) fun r5 => cb (decide (r5 = 0)) (if s2 > 0 then (bnd (idx a0 (i64.wrap (s2 - 1))) fun x6 => if x1.1 ≤ x6.1 then (some (.inr 11)) else (p_catalog_Check_l0 L a0 tl (s2 + 1))) else (p_catalog_Check_l0 L a0 tl (s2 + 1))) (some (.inr r5))
def p_catalog_Check (L : Nat) (a0 : List (Int × ((Int × Int × Bool × Unit) × (Int × Int × Bool × Unit) × (Int × Int × Bool × Unit) × Unit) × (Int × Int × Bool × Unit) × (Int × Int × Bool × Unit) × (List Int) × Int × Unit)) : Option Int := if (a0.length : Int) > 200 then (some 2) else (rq (a0.length < L) <| bnd (p_catalog_Check_l0 L a0 a0 0) fun o7 => match o7 with | (.inl o7_0) => (some 0) | (.inr o7_1) => (some o7_1))
attribute [local go_sem] Ev.putR_s Ev.putR_0 Ev.thenO_s Ev.thenO_0 Ev.seqR_n Ev.seqR_e Ev.seqR_r Ev.seqR_0 Ev.blkR_e Ev.blkR_n Ev.blkR_r Ev.blkR_0 Ev.normR_s Ev.normR_0 Ev.outR_r Ev.outR_n Ev.outR_0 Ev.retS_s Ev.retS_0 Ev.pureO_s Ev.pureO_0 Ev.topR_0 Ev.topR_t Ev.topR_t0 Ev.oneL_0 Ev.oneL_s Ev.topR_d Ev.topR_nils Ev.topR_agg Ev.topR_rs Ev.evOp_move Ev.evOp_assign Ev.evOp_pick Ev.evOp_alloc Ev.evOp_box Ev.evOp_build Ev.evOp_buildSlice Ev.evOp_load Ev.evOp_store Ev.evOp_makeMap Ev.evOp_lookup Ev.evOp_mapUpdate Ev.evOp_insert Ev.evOp_nilCheck Ev.evOp_binOp Ev.evOp_unOp Ev.evOp_convert Ev.evOp_makeFunc Ev.evOp_makeSlice Ev.evOp_slice Ev.evOp_fieldAddr Ev.evOp_field Ev.evOp_indexAddr Ev.evOp_index Ev.evOp_extract Ev.evOp_call Ev.evOp_append Ev.evOp_clear Ev.evOp_len Ev.evLen_d Ev.evLen_rs Ev.evLen_nils Ev.evLen_nila Ev.evLen_mp Ev.evOp_min Ev.evOp_max Ev.condR_b Ev.condR_t Ev.evOps_nil Ev.evOps_plain Ev.evOps_guard Ev.runG_eq Ev.skipG_eq Ev.condL_tt Ev.condL_ff Ev.condL_tf Ev.condL_ft Ev.condL_u Ev.condC_t Ev.condC_f Ev.evC_skip Ev.evC_ret Ev.evC_exit Ev.evC_label Ev.evC_region Ev.evC_draw Ev.evC_seq Ev.evC_cond Ev.evC_block Ev.evC_loop Ev.fin_d Ev.fin_nila Ev.fin_nils Ev.fin_agg_ Ev.fin_rs Ev.finS_s Ev.mapO_fin Ev.upd_upd Ev.argv_d Ev.argv_nila Ev.argv_nils Ev.argv_agg Ev.argv_rs Ev.argv_p Ev.fk_low Ev.appendTo_nils Ev.appendTo_nila Ev.appendTo_rs Ev.consV_d Ev.consV_agg Ev.consV_p Ev.consV_rs Ev.consV_nila Ev.consV_nils Ev.consV_fn Ev.consV_und Ev.consV_jk Ev.consV_grown Ev.topR_grown Ev.len_grown Ev.consV_nilm Ev.consV_mp Ev.sameK_i Ev.sameK_s Ev.mget_0 Ev.mget_hit Ev.mget_miss Ev.mput_0 Ev.mput_hit Ev.mput_miss Ev.apartAll Ev.apartL Ev.apartV Ev.freeAll Ev.sel Ev.keyOfV Ev.evLookup Ev.evPut Ev.hintOk Ev.keyOk Ev.consP Ev.lookV Ev.guardV Ev.dstAt Ev.evPure Ev.evStore Ev.evBin Ev.evBinO Ev.evNil Ev.isNilC Ev.evUn Ev.evConv Ev.evSlice Ev.optI Ev.foldI Ev.capsOk Ev.noTup Ev.nth Ev.setN Ev.killAt Ev.pad Ev.V.get Ev.V.put Ev.putD Ev.newBlk Ev.upd Ev.keq Ev.empty Ev.evCall Ev.V.args Ev.argP Ev.callOf Ev.evNilP Ev.isNilP Ev.look Ev.V.view.views Ev.V.view Ev.V.toD Ev.V.toD.V.toDs Ev.V.pure.pures Ev.V.pure Ev.D.flat.flats Ev.D.flat Ev.mkAgg Ev.allD Ev.aggParts Ev.setParts Ev.setElems Ev.getPath Ev.setPath Ev.subL Ev.eqD Ev.eqD.eqDs Ev.and2 Ev.strCut Ev.evalT Ev.constT Ev.evArgs Ev.mask Ev.maskOf Ev.tableOf Ev.compT Ev.resV Ev.retV Ev.mapO Ev.eT_nils Ev.ag_t Ev.ag_f Ev.ag_0 Ev.ag_n Ev.mx_u64 Ev.mx_u32 Ev.mx_u16 Ev.mx_u8 Ev.sg_i64 Ev.sg_i32 Ev.sg_i16 Ev.sg_i8 Ev.sg_u64 Ev.sg_u32 Ev.sg_u16 Ev.sg_u8 Ev.mapE_i Ev.mapV_nil Ev.hT_nilm Ev.mget_map Ev.mput_map Ev.mapV_put Ev.mapV_half Ev.hT_nila Ev.eO_nila Ev.pL_nila Ev.evLen_gl Ev.r_nila Ev.frzO_n Ev.frzO_e Ev.frzO_r Ev.frzO_0 Ev.mb_z Ev.mb_0 Ev.mb_s Ev.frzL_t Ev.frzL_f Ev.frzL_0 Ev.frzT_nils Ev.frzT_rs Ev.frzT_p Ev.frzK_i Ev.keyIn_i Ev.rI_nil Ev.rI_cons Ev.rI_row Ev.rI_app Ev.r_d Ev.r_nils Ev.r_agg Ev.r_rs Ev.r_gl Ev.vw_row Ev.vw_app Ev.appO_s Ev.frzT_gl Ev.allD_gl Ev.killAt_i Ev.tkOne_i Ev.hT_agg Ev.hT_vagg Ev.hT_int Ev.hT_bool Ev.hT_str Ev.hT_sl Ev.hT_ptr Ev.hT_np Ev.hT_p Ev.hT_rs Ev.hT_mp Ev.hT_nils Ev.hT_fn Ev.hT_jk Ev.hT_gl Ev.eO_sl Ev.eO_nils Ev.eO_rs Ev.eT_sl Ev.eT_rs Ev.pL_str Ev.pL_sl Ev.pL_rs Ev.pL_nils Ev.pL_min Ev.pL_max Ev.len_glB Ev.noTup_gl Ev.rowV_len Ev.rowV_nil Ev.rowV_cons Ev.rowV_append Ev.rowV_set Ev.rowV_replicate Ev.nth_row Ev.row_take Ev.row_drop Ev.toDs_row Ev.fin_row Ev.map_row Ev.map_take_ Ev.map_drop_ Ev.Bk_i Ev.GlB_0 Ev.GlB_mk Ev.gl_nil Ev.gl_cons Ev.gl_snoc Ev.gl_setN Ev.appendTo_gl Ev.consV_gl Ev.elems_gl Ev.fin_gl Ev.view_gl Ev.argv_gl Ev.topR_gl Ev.sp_z Ev.sp_0 Ev.sp_s Ev.km_z Ev.km_0 Ev.km_s Ev.beq_toList Ev.nc0 Ev.bq_t Ev.bq_f Ev.bodyN Ev.le_maxRow Int.cast_ofNat_Int IntWalk.i64_in IntWalk.u64_in IntWalk.u8_in beq_self_eq_true Bool.true_beq Bool.false_beq Bool.and_true Bool.true_and Bool.false_and Bool.and_false Bool.and_self Bool.not_true Bool.not_false Bool.not_eq_true cond_true cond_false if_true if_false and_true true_and and_self decide_true decide_false Bool.or_true Bool.true_or Bool.or_false Bool.false_or List.isEmpty List.isEmpty_nil List.size_toArray List.map List.length_map List.length_cons List.length_nil Option.map Option.bind Option.getD Option.isSome List.replicate Bool.false_eq_true implies_true false_implies forall_const Array.toList Array.isEmpty List.append List.nil_append List.cons_append List.drop_zero List.take_length List.take_succ_cons List.take_zero List.take_nil List.getElem?_map List.getElem?_cons_zero List.getElem?_cons_succ List.getElem?_nil List.append_nil eq_self Int.toNat_natCast List.length_append List.length_set Nat.zero_add Nat.add_zero List.length_replicate Nat.sub_zero Option.map_some Option.map_none Int.le_refl Nat.le_refl Int.natCast_nonneg List.map_append
attribute [local go_sem_proc] Nat.reduceAdd Nat.reduceSub Nat.reduceMul Nat.reduceEqDiff Nat.reduceBEq Nat.reduceLT Nat.reduceLeDiff Nat.reducePow Int.reduceToNat Int.reduceLT Int.reduceLE Int.reduceGT Int.reduceGE Int.reduceEq Int.reduceNeg Int.reduceAdd Int.reduceSub Int.reduceMul reduceCtorEq
attribute [local go_sem_proc ↓] reduceIte
noncomputable def G_catalog_Check (L : Nat) : Specs := [(45, s_catalog_CheckRow L)]
noncomputable def T_catalog_Check : Table := tableOf [(41, en41)]
theorem Go_catalog_Check (L : Nat) (hL : L ≤ 4611686018427387904) : ∀ g s, Ev.look (G_catalog_Check L) g = some s → SpecOk Try.prog g s := (specs_cons (ok_catalog_CheckRow L hL) specs_nil)
theorem To_catalog_Check (L : Nat) : TableOk Try.prog ((G_catalog_Check L).map (·.1)) T_catalog_Check := (table_cons Try.func41 (by kernel_rfl) (by kernel_rfl) table_nil)
theorem lk_catalog_Check_45 (L : Nat) : Ev.look (G_catalog_Check L) 45 = some (s_catalog_CheckRow L) := nr rfl
attribute [local go_sem] Ty.tk3 Ty.ik3 Ty.ek3 Ty.zv3 Ty.by3 Ty.so3 Ty.tk4 Ty.ub4 Ty.ek4 Ty.zv4 Ty.by4 Ty.so4 Ty.tk22 Ty.zv22 Ty.by22 Ty.so22 Ty.tk24 Ty.ik24 Ty.ek24 Ty.zv24 Ty.by24 Ty.so24 Ty.tk27 Ty.ik27 Ty.ek27 Ty.zv27 Ty.by27 Ty.so27 Ty.tk35 Ty.ct35 Ty.ek35 Ty.zv35 Ty.by35 Ty.so35 Ty.tk62 Ty.ik62 Ty.ek62 Ty.zv62 Ty.by62 Ty.so62 Ty.tk64 Ty.ct64 Ty.ek64 Ty.zv64 Ty.by64 Ty.so64 Ty.tk66 Ty.ct66 Ty.ek66 Ty.zv66 Ty.by66 Ty.so66 Ty.tk70 Ty.zv70 Ty.by70 Ty.so70 Ty.tk72 Ty.ik72 Ty.ek72 Ty.zv72 Ty.by72 Ty.so72 Ty.tk87 Ty.ct87 Ty.ek87 Ty.zv87 Ty.by87 Ty.so87 Ty.tk89 Ty.ct89 Ty.zv89 Ty.by89 Ty.so89 Ty.k22_e Ty.k35_e Ty.k64_e Ty.k66_e Ty.k70_e Ty.k87_e Ty.k89_e E.dw41_9 E.kl41_9 E.nc41_9 E.mk41_0 E.mk41_1000001 E.mk41_1000002 E.mk41_1000000 E.fz41_0 E.fi41_0 E.lb41_0 lk_catalog_Check_45 s_catalog_CheckRow_run loopN loops Try.f41
def Q0_p_catalog_Check_l0 (a0 : List (Int × ((Int × Int × Bool × Unit) × (Int × Int × Bool × Unit) × (Int × Int × Bool × Unit) × Unit) × (Int × Int × Bool × Unit) × (Int × Int × Bool × Unit) × (List Int) × Int × Unit)) (u : Unit) (z : Out) : Prop := ∃ env st, z = some (.exit 0, env, st) ∧ env = sp 35 0 []
def Q1_p_catalog_Check_l0 (a0 : List (Int × ((Int × Int × Bool × Unit) × (Int × Int × Bool × Unit) × (Int × Int × Bool × Unit) × Unit) × (Int × Int × Bool × Unit) × (Int × Int × Bool × Unit) × (List Int) × Int × Unit)) (u : Int) (z : Out) : Prop := ∃ env st, z = some (.ret, env, st) ∧ env = sp 35 0 [(2, .d (.int .i64 u))]
def Q_p_catalog_Check_l0 (a0 : List (Int × ((Int × Int × Bool × Unit) × (Int × Int × Bool × Unit) × (Int × Int × Bool × Unit) × Unit) × (Int × Int × Bool × Unit) × (Int × Int × Bool × Unit) × (List Int) × Int × Unit)) (o : Sum Unit Int) (z : Out) : Prop := match o with | (.inl u) => Q0_p_catalog_Check_l0 a0 u z | (.inr u) => Q1_p_catalog_Check_l0 a0 u z
theorem l_p_catalog_Check_l0 (L : Nat) (hL : L ≤ 4611686018427387904) (a0 : List (Int × ((Int × Int × Bool × Unit) × (Int × Int × Bool × Unit) × (Int × Int × Bool × Unit) × Unit) × (Int × Int × Bool × Unit) × (Int × Int × Bool × Unit) × (List Int) × Int × Unit)) : ∀ (tl : List (Int × ((Int × Int × Bool × Unit) × (Int × Int × Bool × Unit) × (Int × Int × Bool × Unit) × Unit) × (Int × Int × Bool × Unit) × (Int × Int × Bool × Unit) × (List Int) × Int × Unit)) (n : Nat) (s2 : Int) (env : List V) (st : Store) (o : Sum Unit Int), tl.length < n → Rng a0 s2 tl → mask (maskOf en41.ms 0) env = sp 35 0 [(0, .d (.sl 89 (a0.map k89.e))), (9, .d (.sl 89 (a0.map k89.e))), (10, .d (.int .i64 (a0.length : Int))), (11, .d (.int .i64 s2))] → p_catalog_Check_l0 L a0 tl s2  = some o →
    Q_p_catalog_Check_l0 a0 o (iter (evC Try.prog (G_catalog_Check L) (evF Try.prog (G_catalog_Check L) T_catalog_Check L 0) L en41.ms 0 0 lb41_0) (maskOf en41.ms 0) n env st) := by
  intro tl
  induction tl with
  | nil =>
    intro n s2  env st o hn hR he  h
    obtain ⟨n, rfl⟩ : ∃ m, n = m + 1 := ⟨n - 1, by omega⟩
    have g0 := rng_nil hR
    rw [iter, he]
    clear he
    generalize hK : iter _ _ n = K
    rw [p_catalog_Check_l0] at h
    revert h
    rintro ⟨⟩
    simp only [go_sem, *]
    refine (⟨_, _, rfl, ?_⟩ : Q0_p_catalog_Check_l0 _ _ _)
    all_goals simp only [go_sem, *]
  | cons x1 tl ih =>
    intro n s2  env st o hn hR he  h
    obtain ⟨n, rfl⟩ : ∃ m, n = m + 1 := ⟨n - 1, by omega⟩
    replace ih : Hold _ := ih
    replace hR := rng_s hR
    obtain ⟨g0, g1, g2, g3, hR⟩ := hR
    rw [iter, he]
    clear he
    generalize hK : iter _ _ n = K
    rw [p_catalog_Check_l0] at h
    revert h
    refine bnd_i fun r5 c1 => ?_
    refine cb_i (fun c2 => ?_) (fun c2 => ?_)
    · refine ite_i (fun c3 => ?_) (fun c3 => ?_)
      · refine idx_i fun x6 c4 c5 c6 => ?_
        refine ite_i (fun c7 => ?_) (fun c7 => ?_)
        · rintro ⟨⟩
          simp only [go_sem, *]
          refine (⟨_, _, rfl, ?_⟩ : Q1_p_catalog_Check_l0 _ _ _)
          all_goals simp only [go_sem, *]
        · intro h
          simp only [go_sem, *]
          subst hK
          refine ih n (s2 + 1)  _ _ _ (by simp only [List.length_cons] at hn; omega) hR ?_ h
          all_goals simp only [go_sem, *]
      · intro h
        simp only [go_sem, *]
        subst hK
        refine ih n (s2 + 1)  _ _ _ (by simp only [List.length_cons] at hn; omega) hR ?_ h
        all_goals simp only [go_sem, *]
    · rintro ⟨⟩
      simp only [go_sem, *]
      refine (⟨_, _, rfl, ?_⟩ : Q1_p_catalog_Check_l0 _ _ _)
      all_goals simp only [go_sem, *]
theorem e_catalog_Check (L : Nat) (hL : L ≤ 4611686018427387904) (a0 : List (Int × ((Int × Int × Bool × Unit) × (Int × Int × Bool × Unit) × (Int × Int × Bool × Unit) × Unit) × (Int × Int × Bool × Unit) × (Int × Int × Bool × Unit) × (List Int) × Int × Unit)) (res : Int) (h : p_catalog_Check L a0 = some res) : evTop Try.prog (G_catalog_Check L) T_catalog_Check L 1 41 [.sl 89 (a0.map k89.e)] = some [.int .i64 res] := by
  revert h
  unfold p_catalog_Check evTop
  simp only [List.map]
  rw [evF_s (fn := Try.f41) (msk := en41.ms) (hT := by rfl) (hb := by rfl)]
  refine ite_i (fun c1 => ?_) (fun c1 => ?_)
  · rintro ⟨⟩
    simp only [go_sem, *]
  · refine rq_i fun c2 => ?_
    refine bnd_i fun o7 ho3 => ?_
    intro h
    simp only [go_sem, *]
    generalize hz5 : iter _ _ _ _ _ = z4
    have hq6 : Q_p_catalog_Check_l0 a0 o7 z4 := by
      rw [← hz5]
      refine l_p_catalog_Check_l0 L hL a0 a0 L 0  _ _ _ c2 (rng_0 c2 hL) ?_ ho3
      all_goals simp only [go_sem, *]
    clear hz5 ho3
    rcases o7 with o7_0 | o7_1
    · obtain ⟨_, st8, rfl, rfl⟩ := hq6
      dsimp only at h
      revert h
      rintro ⟨⟩
      simp only [go_sem, *]
    · obtain ⟨_, st9, rfl, rfl⟩ := hq6
      dsimp only at h
      revert h
      rintro ⟨⟩
      simp only [go_sem, *]
noncomputable def s_catalog_Check (L : Nat) : Ev.Spec := specP (cCons k70 cNil) (fun x => p_catalog_Check L x.1) (fun r => [.int .i64 r])
theorem s_catalog_Check_run (L : Nat) (a0 : List (Int × ((Int × Int × Bool × Unit) × (Int × Int × Bool × Unit) × (Int × Int × Bool × Unit) × Unit) × (Int × Int × Bool × Unit) × (Int × Int × Bool × Unit) × (List Int) × Int × Unit)) : (s_catalog_Check L).run [.sl 89 (a0.map k89.e)] = (p_catalog_Check L a0).map fun r => [.int .i64 r] := specP_run (cCons k70 cNil) (fun x => p_catalog_Check L x.1) (fun r => [.int .i64 r]) (a0, ())
theorem ok_catalog_Check (L : Nat) (hL : L ≤ 4611686018427387904) : SpecOk Try.prog 41 (s_catalog_Check L) := specP_ok mixed (Go_catalog_Check L hL) (To_catalog_Check L) fun x r h => ⟨L, 1, e_catalog_Check L hL x.1 r h⟩
end Go.Proofs.Ytnojehmbiceceaa.P
end
section
set_option linter.unusedVariables false
set_option linter.unusedSimpArgs false
set_option maxRecDepth 100000
namespace Go.Proofs.Ytnojehmbiceceaa.E
open Go.Ev
noncomputable def en42 : Entry := ⟨Try.f42, [(0, mb 35 0 [0, 9, 10, 11]), (1000001, mb 35 0 []), (1000002, mb 35 0 [0, 9, 10, 11]), (1000000, mb 35 0 [2])]⟩
theorem dw42_9 (lv : Nat) (env : List V) (st : Store) (o : Option (List V × Store)) : drawR en42.ms 9 lv env st o = if lv < 1000000000000000000000000000000 then (o) else none := nr rfl
theorem kl42_9 (lv : Nat) (st : Store) : killR en42.ms 9 lv st = st := nr rfl
theorem nc42_9 : ncOf en42.ms 9 = false := nr rfl
theorem mk42_0 (vs : List V) : mask (maskOf en42.ms 0) vs = km 35 0 [0, 9, 10, 11] vs := mask_mb _ _ _ _
theorem mk42_1000001 (vs : List V) : mask (maskOf en42.ms 1000001) vs = km 35 0 [] vs := mask_mb _ _ _ _
theorem mk42_1000002 (vs : List V) : mask (maskOf en42.ms 1000002) vs = km 35 0 [0, 9, 10, 11] vs := mask_mb _ _ _ _
theorem mk42_1000000 (vs : List V) : mask (maskOf en42.ms 1000000) vs = km 35 0 [2] vs := mask_mb _ _ _ _
theorem fz42_0 (lv : Nat) (f : Run) : frzF en42.ms lv 0 f = f := nr rfl
theorem fi42_0 (lv : Nat) (env : List V) (st : Store) (q : Store → Out) : frzI en42.ms lv 0 env st q = q st := nr rfl
noncomputable def lb42_0 : Code := loopN Try.f42 0
end Go.Proofs.Ytnojehmbiceceaa.E
end
section
set_option linter.unusedVariables false
set_option linter.unusedSimpArgs false
set_option maxRecDepth 100000
namespace Go.Proofs.Ytnojehmbiceceaa.E
open Go.Ev
noncomputable def en46 : Entry := ⟨Try.f46, [(0, mb 83 0 [1, 34, 35, 36]), (2, mb 83 0 [1, 5, 53, 54, 55]), (1000001, mb 83 0 [1]), (1000002, mb 83 0 [1, 34, 35, 36]), (1000003, mb 83 0 [1]), (1000004, mb 83 0 [1, 5, 53, 54, 55]), (1000000, mb 83 0 [2])]⟩
theorem dw46_3 (lv : Nat) (env : List V) (st : Store) (o : Option (List V × Store)) : drawR en46.ms 3 lv env st o = if lv < 1000000000000000000000000000000 then (o) else none := nr rfl
theorem kl46_3 (lv : Nat) (st : Store) : killR en46.ms 3 lv st = st := nr rfl
theorem nc46_3 : ncOf en46.ms 3 = false := nr rfl
theorem mk46_0 (vs : List V) : mask (maskOf en46.ms 0) vs = km 83 0 [1, 34, 35, 36] vs := mask_mb _ _ _ _
theorem mk46_2 (vs : List V) : mask (maskOf en46.ms 2) vs = km 83 0 [1, 5, 53, 54, 55] vs := mask_mb _ _ _ _
theorem mk46_1000001 (vs : List V) : mask (maskOf en46.ms 1000001) vs = km 83 0 [1] vs := mask_mb _ _ _ _
theorem mk46_1000002 (vs : List V) : mask (maskOf en46.ms 1000002) vs = km 83 0 [1, 34, 35, 36] vs := mask_mb _ _ _ _
theorem mk46_1000003 (vs : List V) : mask (maskOf en46.ms 1000003) vs = km 83 0 [1] vs := mask_mb _ _ _ _
theorem mk46_1000004 (vs : List V) : mask (maskOf en46.ms 1000004) vs = km 83 0 [1, 5, 53, 54, 55] vs := mask_mb _ _ _ _
theorem mk46_1000000 (vs : List V) : mask (maskOf en46.ms 1000000) vs = km 83 0 [2] vs := mask_mb _ _ _ _
theorem fz46_0 (lv : Nat) (f : Run) : frzF en46.ms lv 0 f = f := nr rfl
theorem fi46_0 (lv : Nat) (env : List V) (st : Store) (q : Store → Out) : frzI en46.ms lv 0 env st q = q st := nr rfl
theorem fz46_2 (lv : Nat) (f : Run) : frzF en46.ms lv 2 f = f := nr rfl
theorem fi46_2 (lv : Nat) (env : List V) (st : Store) (q : Store → Out) : frzI en46.ms lv 2 env st q = q st := nr rfl
noncomputable def lb46_0 : Code := loopN Try.f46 0
noncomputable def lb46_2 : Code := loopN Try.f46 1
end Go.Proofs.Ytnojehmbiceceaa.E
end
section
set_option linter.unusedVariables false
set_option linter.unusedSimpArgs false
set_option maxRecDepth 100000
namespace Go.Proofs.Ytnojehmbiceceaa.E
open Go.Ev
noncomputable def en128 : Entry := ⟨Try.f128, [(1000001, mb 56 0 []), (1000000, mb 56 0 [6])]⟩
theorem mk128_1000001 (vs : List V) : mask (maskOf en128.ms 1000001) vs = km 56 0 [] vs := mask_mb _ _ _ _
theorem mk128_1000000 (vs : List V) : mask (maskOf en128.ms 1000000) vs = km 56 0 [6] vs := mask_mb _ _ _ _
end Go.Proofs.Ytnojehmbiceceaa.E
end
