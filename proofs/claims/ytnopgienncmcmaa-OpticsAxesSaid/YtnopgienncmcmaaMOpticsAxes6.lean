/- Parts of one proof, joined: EvY, PlBase, Ty, E4, E10, E22, E24, E33, E52, E64, G64, G52, G33, EvX. -/
import Derived.Test.YtnopgienncmcmaaMOpticsAxes5
import Derived.Test.YtnopgienncmcmaaProg
import Derived.Sort.Row
import Derived.Sort.Grow
section
set_option linter.unusedVariables false
set_option linter.unusedSimpArgs false
namespace Go.Ev
/-! ### partial functions -/
def rq (c : Prop) [Decidable c] {α : Type} (k : Option α) : Option α := if c then k else none
theorem rq_e {c : Prop} [Decidable c] {α : Type} {k : Option α} {r : α} (h : rq c k = some r) : c ∧ k = some r := by
  unfold rq at h; split at h
  · exact ⟨by assumption, h⟩
  · cases h
theorem rq_t {c : Prop} [Decidable c] {α : Type} {k : Option α} (h : c) : rq c k = k := by unfold rq; rw [if_pos h]
theorem ite_e {c : Prop} [Decidable c] {α : Type} {x y : Option α} {r : α} (h : (if c then x else y) = some r) : (c ∧ x = some r) ∨ (¬ c ∧ y = some r) := by
  split at h
  · exact .inl ⟨by assumption, h⟩
  · exact .inr ⟨by assumption, h⟩
def cb (b : Bool) {α : Type} (x y : Option α) : Option α := if b = true then x else y
theorem cb_e {b : Bool} {α : Type} {x y : Option α} {r : α} (h : cb b x y = some r) : (b = true ∧ x = some r) ∨ (b = false ∧ y = some r) := by
  cases b
  · exact .inr ⟨rfl, h⟩
  · exact .inl ⟨rfl, h⟩
theorem cb_t {α : Type} {x y : Option α} : cb true x y = x := nr rfl
theorem cb_f {α : Type} {x y : Option α} : cb false x y = y := nr rfl
def bnd {α β : Type} (x : Option α) (f : α → Option β) : Option β := match x with | some v => f v | none => none
theorem bnd_e {α β : Type} {x : Option α} {f : α → Option β} {r : β} (h : bnd x f = some r) : ∃ v, x = some v ∧ f v = some r := by
  cases x with
  | none => cases h
  | some v => exact ⟨v, rfl, h⟩
theorem bnd_s {α β : Type} {v : α} {f : α → Option β} : bnd (some v) f = f v := nr rfl
theorem bnd_0 {α β : Type} {f : α → Option β} : bnd none f = none := nr rfl
def idx {α : Type} (l : List α) (i : Int) : Option α := if 0 ≤ i then l[i.toNat]? else none
theorem idx_e {α : Type} {l : List α} {i : Int} {v : α} (h : idx l i = some v) : 0 ≤ i ∧ i < (l.length : Int) ∧ l[i.toNat]? = some v := by
  unfold idx at h; split at h
  · rename_i h0
    obtain ⟨h1, _⟩ := List.getElem?_eq_some_iff.1 h
    exact ⟨h0, by omega, h⟩
  · cases h
theorem idx_s {α : Type} {l : List α} {i : Int} (h0 : 0 ≤ i) : idx l i = l[i.toNat]? := by unfold idx; rw [if_pos h0]
theorem idx_nat {α : Type} {l : List α} {i : Nat} : idx l (i : Int) = l[i]? := by unfold idx; rw [if_pos (by omega), Int.toNat_natCast]
def sat (s : ByteArray) (n : Int) : Option Int := if 0 ≤ n then (s[n.toNat]?).map fun b => (b.toNat : Int) else none
theorem sat_e {s : ByteArray} {n v : Int} (h : sat s n = some v) : strAt s n = some (.d (.int .u8 v)) := by
  unfold sat at h; unfold strAt
  split at h
  · rename_i h0
    rw [if_pos h0]
    cases hb : s[n.toNat]? with
    | none => rw [hb] at h; cases h
    | some b => rw [hb] at h; cases h; rfl
  · cases h
def Hold (p : Prop) : Prop := p
/-! ### rounds over a list, counted rounds -/
def Rng {α : Type} (l : List α) (i : Int) (tl : List α) : Prop := 0 ≤ i ∧ l.drop i.toNat = tl ∧ i.toNat ≤ l.length ∧ l.length < 4611686018427387904
theorem rng_0 {α : Type} {l : List α} {L : Nat} (h : l.length < L) (hL : L ≤ 4611686018427387904) : Rng l 0 l := ⟨Int.le_refl _, rfl, Nat.zero_le _, by omega⟩
theorem rng_nil {α : Type} {l : List α} {i : Int} (h : Rng l i []) : ¬ i < (l.length : Int) := by
  obtain ⟨h0, h1, h2, h3⟩ := h
  have := congrArg List.length h1
  simp at this
  omega
theorem rng_end {α : Type} {l : List α} {i : Int} (h : Rng l i []) : i = (l.length : Int) := by
  have h4 := rng_nil h
  obtain ⟨h0, h1, h2, h3⟩ := h
  omega
theorem rng_s {α : Type} {l tl : List α} {i : Int} {x : α} (h : Rng l i (x :: tl)) : 0 ≤ i ∧ i < (l.length : Int) ∧ l[i.toNat]? = some x ∧ IntKind.i64.wrap (i + 1) = i + 1 ∧ Rng l (i + 1) tl := by
  obtain ⟨h0, h1, h2, h3⟩ := h
  have hl := congrArg List.length h1
  simp at hl
  have hx : l[i.toNat]? = some x := by
    have := congrArg (fun q => q[0]?) h1
    simpa using this
  have ht : (i + 1).toNat = i.toNat + 1 := by omega
  refine ⟨h0, by omega, hx, IntWalk.i64_in _ (by omega), by omega, ?_, by omega, h3⟩
  rw [ht, ← List.drop_drop, h1]; rfl
def Cnt (n i : Int) (k : Nat) : Prop := 0 ≤ i ∧ (n - i).toNat = k ∧ n < 4611686018427387904
theorem cnt_0 {n i : Int} (h0 : 0 ≤ i) (h : n < 4611686018427387904) : Cnt n i (n - i).toNat := ⟨h0, rfl, h⟩
theorem cnt_00 {n : Int} (h0 : (0 : Int) ≤ 0) (h : n < 4611686018427387904) : Cnt n 0 n.toNat := ⟨h0, by rw [Int.sub_zero], h⟩
theorem cnt_nil {n i : Int} (h : Cnt n i 0) : ¬ i < n := by obtain ⟨h0, h1, h2⟩ := h; omega
theorem cnt_s {n i : Int} {k : Nat} (h : Cnt n i (k + 1)) : 0 ≤ i ∧ i < n ∧ IntKind.i64.wrap (i + 1) = i + 1 ∧ Cnt n (i + 1) k := by
  obtain ⟨h0, h1, h2⟩ := h
  exact ⟨h0, by omega, IntWalk.i64_in _ (by omega), by omega, by omega, h2⟩
/-! ### rows of typed values -/
def rowV {α : Type} (f : α → D) (l : List α) : List V := l.map fun x => V.d (f x)
section
variable {α : Type} (f : α → D)
theorem rowV_len (l : List α) : (rowV f l).length = l.length := by simp [rowV]
theorem rowV_nil : rowV f [] = [] := nr rfl
theorem rowV_cons (x : α) (l : List α) : rowV f (x :: l) = V.d (f x) :: rowV f l := nr rfl
theorem rowV_append (l m : List α) : rowV f (l ++ m) = rowV f l ++ rowV f m := by simp [rowV]
theorem rowV_set (l : List α) (i : Nat) (x : α) : rowV f (l.set i x) = setN (rowV f l) i (V.d (f x)) := by rw [setN_eq, rowV, rowV, List.map_set]
theorem rowV_replicate (n : Nat) (x : α) : rowV f (List.replicate n x) = List.replicate n (V.d (f x)) := by simp [rowV]
theorem nth_row (l : List α) (i : Nat) : nth (rowV f l) i = (l[i]?).map fun x => V.d (f x) := by rw [nth_eq, rowV, List.getElem?_map]
theorem row_take (l : List α) (n : Nat) : (rowV f l).take n = rowV f (l.take n) := by simp [rowV, List.map_take]
theorem row_drop (l : List α) (n : Nat) : (rowV f l).drop n = rowV f (l.drop n) := by simp [rowV, List.map_drop]
theorem toDs_row : ∀ l : List α, V.toD.V.toDs (rowV f l) = some (l.map f)
  | [] => rfl
  | x :: r => by rw [rowV_cons]; simp only [V.toD.V.toDs, V.toD, toDs_row r, List.map_cons]
theorem fin_row (st : Store) (n : Nat) : ∀ l : List α, mapO (V.fin st (n + 1)) (rowV f l) = some (l.map f)
  | [] => rfl
  | x :: r => by rw [rowV_cons]; simp only [mapO, fin_d, fin_row st n r, List.map_cons]
theorem map_row (l : List α) : (l.map f).map V.d = rowV f l := by simp [rowV]
theorem map_take_ (l : List α) (n : Nat) : (l.map f).take n = (l.take n).map f := by simp [List.map_take]
theorem map_drop_ (l : List α) (n : Nat) : (l.map f).drop n = (l.drop n).map f := by simp [List.map_drop]
end
def Bk (b : Blk) (e : TypeId) (vs : List V) : Prop := b.e = e ∧ b.vs = vs ∧ b.live = true
theorem Bk_i (b : Blk) (e : TypeId) (vs : List V) : Bk b e vs = (b.e = e ∧ b.vs = vs ∧ b.live = true) := nr rfl
/-! ### rows that are nil while they are empty -/
def gl (e : TypeId) (k : Key) (ver : Nat) : List V → V
  | [] => .nils e
  | v :: vs => .rs e k ver 0 (vs.length + 1) true
def GlB (b : Blk) (e : TypeId) (vs : List V) : Prop := vs ≠ [] → Bk b e vs
theorem GlB_0 (b : Blk) (e : TypeId) : GlB b e [] = True := eq_true fun h => absurd rfl h
theorem GlB_mk (v : Nat) (e : TypeId) (vs : List V) : GlB ⟨v, e, vs, true⟩ e vs = True := eq_true fun _ => ⟨rfl, rfl, rfl⟩
theorem GlB_of {b : Blk} {e : TypeId} {vs : List V} (h1 : b.e = e) (h2 : b.vs = vs) (h3 : b.live = true) : GlB b e vs := fun _ => ⟨h1, h2, h3⟩
theorem gl_nil (e : TypeId) (k : Key) (ver : Nat) : gl e k ver [] = .nils e := nr rfl
theorem gl_cons (e : TypeId) (k : Key) (ver : Nat) (v : V) (vs : List V) : gl e k ver (v :: vs) = .rs e k ver 0 (vs.length + 1) true := nr rfl
theorem gl_pos {e : TypeId} {k : Key} {ver : Nat} {vs : List V} (h : vs ≠ []) : gl e k ver vs = .rs e k ver 0 vs.length true := by cases vs; exact absurd rfl h; rfl
theorem gl_snoc (e : TypeId) (k : Key) (ver : Nat) (v : V) (ws vs : List V) : gl e k ver (ws ++ v :: vs) = .rs e k ver 0 (ws.length + (vs.length + 1)) true := by
  rw [gl_pos (by simp)]; simp
theorem gl_ne {α : Type} {f : α → D} {l : List α} {i : Nat} {x : α} (h : l[i]? = some x) (e : TypeId) (k : Key) (ver : Nat) : gl e k ver (rowV f l) = .rs e k ver 0 l.length true := by
  have hl : l ≠ [] := by intro h2; subst h2; simp at h
  rw [gl_pos (by simpa [rowV] using hl), rowV_len]
theorem gl_nz {α : Type} {f : α → D} {l : List α} (h : ¬ l.length = 0) (e : TypeId) (k : Key) (ver : Nat) : gl e k ver (rowV f l) = .rs e k ver 0 l.length true := by
  have hl : l ≠ [] := by intro h2; subst h2; exact h rfl
  rw [gl_pos (by simpa [rowV] using hl), rowV_len]
theorem row_nz {α : Type} {f : α → D} {l : List α} (h : ¬ l.length = 0) : rowV f l ≠ [] := by
  intro h2; cases l <;> simp [rowV] at h2 h
theorem gl_setN (e : TypeId) (k : Key) (ver : Nat) (vs : List V) (i : Nat) (x : V) : gl e k ver (setN vs i x) = gl e k ver vs := by
  cases vs with
  | nil => rfl
  | cons v vs => cases i <;> simp [setN, gl, setN_eq]
theorem row_ne {α : Type} {f : α → D} {l : List α} {i : Nat} {x : α} (h : l[i]? = some x) : rowV f l ≠ [] := by
  intro h2; cases l <;> simp [rowV] at h2 h
theorem appendTo_gl {P : Program} {lv : Nat} {d : Tmp} {st : Store} {e : TypeId} {k : Key} {ver : Nat} {vs new : List V} (h1 : (st k).ver = ver) (h2 : GlB (st k) e vs) (h3 : k = (lv, d)) (h4 : lv < 1000000000000000000000000000000)
    (h5 : vs.length + new.length ≤ maxRow) (h6 : (vs.length + new.length) * P.bytesOf e ≤ maxRow) :
    appendTo P lv d st e (gl e k ver vs) new = some (.rs e k (ver + 1) 0 (vs.length + new.length) true, upd st k ⟨ver + 1, e, vs ++ new, true⟩) := by
  subst h3
  cases vs with
  | nil =>
    rw [gl_nil, appendTo_nils, fk_low h4, if_pos ⟨rfl, by simpa using h6⟩, h1]
    simp [newBlk, h1]
  | cons v vs =>
    obtain ⟨g1, g2, g3⟩ := h2 (by simp)
    rw [gl_cons, appendTo_rs, if_pos ⟨h1, g3, rfl, rfl, by rw [g2]; rfl, rfl, h5, h6⟩, g2]
    rfl
theorem consV_gl (e : TypeId) (k : Key) (ver : Nat) (ws vs : List V) : consV (gl e k ver ws) vs = some (gl e k ver ws :: vs) := by cases ws <;> rfl
theorem len_gl (e : TypeId) (k : Key) (ver : Nat) (ws : List V) : lenV (gl e k ver ws) = some ws.length := by cases ws <;> rfl
theorem hasT_gl {P : Program} {t e : TypeId} {k : Key} {ver : Nat} {ws : List V} : hasT P t (gl e k ver ws) = (match tk P t with | .one | .sl _ => true | _ => false) := by cases ws <;> (unfold hasT gl; cases tk P t <;> rfl)
theorem len_glB (P : Program) (t e : TypeId) (k : Key) (ver : Nat) (ws : List V) : evPureB P .len [t] [gl e k ver ws] = (match tk P t with | .sl _ => some (.d (.int .i64 ws.length)) | _ => none) := by
  cases ws <;> (simp only [evPureB, gl, lenV]; cases tk P t <;> rfl)
theorem elems_gl {st : Store} {e : TypeId} {k : Key} {ver : Nat} {vs : List V} (h1 : (st k).ver = ver) (h2 : GlB (st k) e vs) : elemsOf st (gl e k ver vs) = some (e, vs) := by
  cases vs with
  | nil => rfl
  | cons v vs =>
    obtain ⟨g1, g2, g3⟩ := h2 (by simp)
    simp only [gl, elemsOf, g2]
    rw [if_pos ⟨h1, g3, by simp⟩, List.drop_zero, List.take_of_length_le (by simp)]
theorem fin_gl {st : Store} {e : TypeId} {k : Key} {ver n : Nat} {vs : List V} (h1 : (st k).ver = ver) (h2 : GlB (st k) e vs) : V.fin st (n + 1) (gl e k ver vs) = (mapO (V.fin st n) vs).map (D.sl e) := by
  have he := elems_gl h1 h2
  cases vs with
  | nil => rfl
  | cons v vs => simp only [gl] at he ⊢; rw [fin_rs, he]; rfl
theorem view_gl {st : Store} {e : TypeId} {k : Key} {ver : Nat} {vs : List V} (h1 : (st k).ver = ver) (h2 : GlB (st k) e vs) : V.view st (gl e k ver vs) = (V.toD.V.toDs vs).map (D.sl e) := by
  have he := elems_gl h1 h2
  cases vs with
  | nil => rfl
  | cons v vs => simp only [gl] at he ⊢; simp only [V.view, he]
theorem argv_gl (st : Store) (e : TypeId) (k : Key) (ver : Nat) (vs : List V) : V.arg st (gl e k ver vs) = V.view st (gl e k ver vs) := by cases vs <;> rfl
theorem topR_gl (st : Store) (e : TypeId) (k : Key) (ver : Nat) (vs : List V) : topR (some (gl e k ver vs, st)) = oneL (V.fin st 9 (gl e k ver vs)) := by cases vs <;> rfl
/-! ### places -/
def sp : Nat → Nat → List (Nat × V) → List V
  | 0, _, _ => []
  | n + 1, i, [] => .und :: sp n (i + 1) []
  | n + 1, i, (j, v) :: r => if i = j then v :: sp n (i + 1) r else .und :: sp n (i + 1) ((j, v) :: r)
theorem sp_z (i : Nat) (r : List (Nat × V)) : sp 0 i r = [] := nr rfl
theorem sp_0 (n i : Nat) : sp (n + 1) i [] = .und :: sp n (i + 1) [] := nr rfl
theorem sp_s (n i j : Nat) (v : V) (r : List (Nat × V)) : sp (n + 1) i ((j, v) :: r) = if i = j then v :: sp n (i + 1) r else .und :: sp n (i + 1) ((j, v) :: r) := nr rfl
/-- A mask by the places that are kept. -/
def mb : Nat → Nat → List Nat → List Bool
  | 0, _, _ => []
  | n + 1, i, [] => false :: mb n (i + 1) []
  | n + 1, i, j :: r => if i = j then true :: mb n (i + 1) r else false :: mb n (i + 1) (j :: r)
def km : Nat → Nat → List Nat → List V → List V
  | 0, _, _, vs => vs
  | n + 1, i, _, [] => []
  | n + 1, i, [], v :: vs => .und :: km n (i + 1) [] vs
  | n + 1, i, j :: r, v :: vs => if i = j then v :: km n (i + 1) r vs else .und :: km n (i + 1) (j :: r) vs
theorem mask_mb : ∀ (n i : Nat) (js : List Nat) (vs : List V), mask (mb n i js) vs = km n i js vs
  | 0, _, _, vs => by simp [mb, mask, km]
  | n + 1, i, [], [] => rfl
  | n + 1, i, j :: r, [] => by
    simp only [mb, km]; split <;> rfl
  | n + 1, i, [], v :: vs => by simp only [mb, mask, km, mask_mb n]
  | n + 1, i, j :: r, v :: vs => by
    simp only [mb, km]
    split <;> simp only [mask, mask_mb n]
theorem km_z (i : Nat) (js : List Nat) (vs : List V) : km 0 i js vs = vs := nr rfl
theorem km_0 (n i : Nat) (v : V) (vs : List V) : km (n + 1) i [] (v :: vs) = .und :: km n (i + 1) [] vs := nr rfl
theorem km_s (n i j : Nat) (r : List Nat) (v : V) (vs : List V) : km (n + 1) i (j :: r) (v :: vs) = if i = j then v :: km n (i + 1) r vs else .und :: km n (i + 1) (j :: r) vs := nr rfl
/-! ### contracts of partial functions -/
noncomputable def specP {α β : Type} (c : CodL α) (p : α → Option β) (res : β → List D) : Spec := specC c (fun x => (p x).isSome = true) fun x => match p x with | some r => res r | none => []
theorem specP_run {α β : Type} (c : CodL α) (p : α → Option β) (res : β → List D) (x : α) : (specP c p res).run (c.e x) = (p x).map res := by
  cases h : p x with
  | some r => unfold specP; rw [specC_run _ _ _ x (by rw [h]; rfl)]; simp only [h]; rfl
  | none =>
    cases h2 : (specP c p res).run (c.e x) with
    | none => rfl
    | some rs =>
      unfold specP specC at h2
      obtain ⟨y, h3, h4, _⟩ := mkSpec_inv h2
      have := c.inj _ _ h3
      subst this
      rw [h] at h4; cases h4
theorem specP_ok {P : Program} {Γ : Specs} {T : Table} {f : FuncId} {α β : Type} {c : CodL α} {p : α → Option β} {res : β → List D} (hm : P.follows .mixedOrders = true) (hΓ : ∀ g s, look Γ g = some s → SpecOk P g s) (hT : TableOk P (Γ.map (·.1)) T)
    (h : ∀ x r, p x = some r → ∃ L n, evTop P Γ T L n f (c.e x) = some (res r)) : SpecOk P f (specP c p res) := specC_ok hm hΓ hT fun x hp => by
  cases hx : p x with
  | none => rw [hx] at hp; cases hp
  | some r => exact h x r hx
def bodyN (fn : Func) : Code := match fn.body with | some c => c | none => .skip
theorem beq_toList (a b : ByteArray) : (a.toList == b.toList) = decide (a = b) := by
  have h : a.toList = b.toList ↔ a = b := by
    constructor
    · intro h
      rw [ByteArray.toList_eq, ByteArray.toList_eq] at h
      cases a; cases b
      simp only at h
      congr
      exact Array.toList_inj.1 h
    · intro h; rw [h]
  by_cases c : a = b
  · rw [decide_eq_true c, c]; simp
  · rw [decide_eq_false c]
    simp only [beq_eq_false_iff_ne, ne_eq]
    exact fun e => c (h.1 e)
theorem le_maxRow {n : Nat} (h : n ≤ 1000000) : (n ≤ maxRow) = True := eq_true (by unfold maxRow; omega)
theorem bq_t (b : Bool) : (b == true) = b := by cases b <;> rfl
theorem bq_f (b : Bool) : (b == false) = !b := by cases b <;> rfl
theorem nc0 : ((0 : Nat) : Int) = 0 := nr rfl
end Go.Ev
namespace Go.Ev
section
variable {α β : Type} {G : Prop} {r : β}
theorem rq_i {c : Prop} [Decidable c] {k : Option β} (h : c → k = some r → G) : rq c k = some r → G := fun q => h (rq_e q).1 (rq_e q).2
theorem ite_i {c : Prop} [Decidable c] {x y : Option β} (h1 : c → x = some r → G) (h2 : ¬ c → y = some r → G) : (if c then x else y) = some r → G := fun q => (ite_e q).elim (fun z => h1 z.1 z.2) fun z => h2 z.1 z.2
theorem cb_i {b : Bool} {x y : Option β} (h1 : b = true → x = some r → G) (h2 : b = false → y = some r → G) : cb b x y = some r → G := fun q => (cb_e q).elim (fun z => h1 z.1 z.2) fun z => h2 z.1 z.2
theorem bnd_i {x : Option α} {f : α → Option β} (h : ∀ v, x = some v → f v = some r → G) : bnd x f = some r → G := fun q => by obtain ⟨v, h1, h2⟩ := bnd_e q; exact h v h1 h2
theorem idx_i {l : List α} {i : Int} {f : α → Option β} (h : ∀ v, 0 ≤ i → i < (l.length : Int) → l[i.toNat]? = some v → f v = some r → G) : bnd (idx l i) f = some r → G := fun q => by
  obtain ⟨v, h1, h2⟩ := bnd_e q
  obtain ⟨g1, g2, g3⟩ := idx_e h1
  exact h v g1 g2 g3 h2
theorem sat_i {s : ByteArray} {i : Int} {f : Int → Option β} (h : ∀ v, strAt s i = some (.d (.int .u8 v)) → f v = some r → G) : bnd (sat s i) f = some r → G := fun q => by
  obtain ⟨v, h1, h2⟩ := bnd_e q
  exact h v (sat_e h1) h2
end
end Go.Ev
namespace Go.Ev
section
variable (P : Program) (t e : TypeId) (st : Store)
def tkOne (P : Program) (t : TypeId) : Bool := match tk P t with | .one | .sl _ => true | _ => false
theorem tkOne_i : tkOne P t = (match tk P t with | .one | .sl _ => true | _ => false) := nr rfl
theorem hT_agg (t' : TypeId) (ds : List D) : hasT P t (.d (.agg t' ds)) = (t' == t && (match tk P t with | .agg _ _ => true | _ => false)) := nr rfl
theorem hT_vagg (t' : TypeId) (vs : List V) : hasT P t (.agg t' vs) = (t' == t && (match tk P t with | .agg _ _ => true | _ => false)) := nr rfl
theorem hT_int (k : IntKind) (n : Int) : hasT P t (.d (.int k n)) = tkOne P t := nr rfl
theorem hT_bool (b : Bool) : hasT P t (.d (.bool b)) = tkOne P t := nr rfl
theorem hT_str (s : ByteArray) : hasT P t (.d (.str s)) = tkOne P t := nr rfl
theorem hT_sl (ds : List D) : hasT P t (.d (.sl e ds)) = tkOne P t := nr rfl
theorem hT_ptr (x : D) : hasT P t (.d (.ptr x)) = tkOne P t := nr rfl
theorem hT_np : hasT P t (.d .np) = tkOne P t := nr rfl
theorem hT_p (k : Key) (ver i : Nat) (path : List (TypeId × Nat)) : hasT P t (.p k ver i path) = tkOne P t := nr rfl
theorem hT_rs (k : Key) (ver off len : Nat) (full : Bool) : hasT P t (.rs e k ver off len full) = tkOne P t := nr rfl
theorem hT_mp (k : Key) (ver : Nat) : hasT P t (.mp k ver) = tkOne P t := nr rfl
theorem hT_nils : hasT P t (.nils e) = tkOne P t := nr rfl
theorem hT_nila : hasT P t (.nila e) = tkOne P t := nr rfl
theorem hT_nilm : hasT P t .nilm = tkOne P t := nr rfl
theorem hT_fn (f : FuncId) (c : List V) : hasT P t (.fn f c) = tkOne P t := nr rfl
theorem hT_jk : hasT P t .jk = tkOne P t := nr rfl
theorem hT_gl (k : Key) (ver : Nat) (ws : List V) : hasT P t (gl e k ver ws) = tkOne P t := by cases ws <;> rfl
theorem allD_gl (k : Key) (ver : Nat) (ws r : List V) : allD (gl e k ver ws :: r) = none := by cases ws <;> rfl
theorem eO_sl (ds : List D) : elemsOf st (.d (.sl e ds)) = some (e, ds.map V.d) := nr rfl
theorem eO_nils : elemsOf st (.nils e) = some (e, []) := nr rfl
theorem eO_nila : elemsOf st (.nila e) = some (e, []) := nr rfl
theorem eO_rs (k : Key) (ver off len : Nat) (full : Bool) : elemsOf st (.rs e k ver off len full) = if (st k).ver = ver ∧ (st k).live = true ∧ off + len ≤ (st k).vs.length then some (e, ((st k).vs.drop off).take len) else none := nr rfl
theorem eT_sl (ds : List D) : elemT (.d (.sl e ds)) = some e := nr rfl
theorem eT_rs (k : Key) (ver off len : Nat) (full : Bool) : elemT (.rs e k ver off len full) = some e := nr rfl
theorem pL_str (s : ByteArray) : evPureB P .len [t] [.d (.str s)] = if ek P t = .str then some (.d (.int .i64 s.size)) else none := nr rfl
theorem pL_sl (ds : List D) : evPureB P .len [t] [.d (.sl e ds)] = (match tk P t with | .sl _ => some (.d (.int .i64 ds.length)) | _ => none) := by simp only [evPureB, lenV]; cases tk P t <;> rfl
theorem pL_rs (k : Key) (ver off len : Nat) (full : Bool) : evPureB P .len [t] [.rs e k ver off len full] = (match tk P t with | .sl _ => some (.d (.int .i64 len)) | _ => none) := by simp only [evPureB, lenV]; cases tk P t <;> rfl
theorem pL_nils : evPureB P .len [t] [.nils e] = (match tk P t with | .sl _ => some (.d (.int .i64 0)) | _ => none) := by simp only [evPureB, lenV]; cases tk P t <;> rfl
theorem pL_nila : evPureB P .len [t] [.nila e] = (match tk P t with | .sl _ => some (.d (.int .i64 0)) | _ => none) := by simp only [evPureB, lenV]; cases tk P t <;> rfl
theorem evLen_gl (Γ : Specs) (ts : List TypeId) (k : Key) (ver : Nat) (ws : List V) : evLen P Γ st ts [gl e k ver ws] = evPureB P .len ts [gl e k ver ws] := by cases ws <;> rfl
theorem nl_nils (op : BinOp) : evNil op (.nils e) = (match op with | .eql => some (.d (.bool true)) | .neq => some (.d (.bool false)) | _ => none) := by cases op <;> rfl
theorem pL_min (ts : List TypeId) (k : IntKind) (a : Int) (r : List V) : evPureB P .min ts (.d (.int k a) :: r) = foldI minI k r (some a) := nr rfl
theorem pL_max (ts : List TypeId) (k : IntKind) (a : Int) (r : List V) : evPureB P .max ts (.d (.int k a) :: r) = foldI maxI k r (some a) := nr rfl
theorem noTup_gl (k : Key) (ver : Nat) (ws r : List V) : noTup (gl e k ver ws :: r) = noTup r := by cases ws <;> rfl
end
end Go.Ev
namespace Go.Ev
/-! ### rows that are turned to data -/
section
variable (kp : Bool) (st0 st : Store) (lv : Nat) (K : List Bool)
theorem frzO_n (m : List Bool) (env : List V) : frzO kp lv m K (some (.normal, env, st)) = (match frzL kp st lv K m env st with | some st' => some (.normal, env, killL lv K 0 st') | none => none) := nr rfl
theorem frzO_e (m : List Bool) (i : Nat) (env : List V) : frzO kp lv m K (some (.exit i, env, st)) = some (.exit i, env, st) := nr rfl
theorem frzO_r (m : List Bool) (env : List V) : frzO kp lv m K (some (.ret, env, st)) = some (.ret, env, st) := nr rfl
theorem frzO_0 (m : List Bool) : frzO kp lv m K none = none := nr rfl
theorem mb_z (i : Nat) (js : List Nat) : mb 0 i js = [] := nr rfl
theorem mb_0 (n i : Nat) : mb (n + 1) i [] = false :: mb n (i + 1) [] := nr rfl
theorem mb_s (n i j : Nat) (r : List Nat) : mb (n + 1) i (j :: r) = if i = j then true :: mb n (i + 1) r else false :: mb n (i + 1) (j :: r) := nr rfl
theorem frzL_t (m : List Bool) (v : V) (vs : List V) : frzL kp st0 lv K (true :: m) (v :: vs) st = (match frzT kp st0 st lv K v with | some st' => frzL kp st0 lv K m vs st' | none => none) := nr rfl
theorem frzL_f (m : List Bool) (v : V) (vs : List V) : frzL kp st0 lv K (false :: m) (v :: vs) st = frzL kp st0 lv K m vs st := nr rfl
theorem frzL_0 (vs : List V) : frzL kp st0 lv K [] vs st = some st := nr rfl
theorem frzT_nils (e : TypeId) : frzT kp st0 st lv K (.nils e) = some st := nr rfl
theorem frzT_rs (e : TypeId) (k : Key) (ver off len : Nat) (full : Bool) : frzT kp st0 st lv K (.rs e k ver off len full) = if (st0 k).ver = ver then frzK kp st0 st lv K k else none := nr rfl
theorem frzT_p (k : Key) (ver i : Nat) (path : List (TypeId × Nat)) : frzT kp st0 st lv K (.p k ver i path) = if (st0 k).ver = ver then frzK kp st0 st lv K k else none := nr rfl
theorem frzK_i (k : Key) : frzK kp st0 st lv K k = if (st0 k).live = true ∧ keyIn lv K k = false ∧ refsIn.refsIns lv K (st0 k).vs = true then (match V.view.views st0 (st0 k).vs with | some ds => some (upd st k ⟨(st0 k).ver, (st0 k).e, bif kp then keepL (st0 k).vs ds else ds.map V.d, true⟩) | none => none) else none := nr rfl
theorem keyIn_i (a d : Nat) : keyIn lv K (a, d) = (a == lv && K.getD d false) := nr rfl
theorem rI_nil : refsIn.refsIns lv K [] = true := nr rfl
theorem rI_cons (v : V) (vs : List V) : refsIn.refsIns lv K (v :: vs) = (refsIn lv K v && refsIn.refsIns lv K vs) := nr rfl
theorem rI_row {α : Type} (f : α → D) : ∀ l : List α, refsIn.refsIns lv K (rowV f l) = true
  | [] => rfl
  | x :: r => by rw [rowV_cons, rI_cons, rI_row f r]; rfl
theorem rI_app : ∀ a b : List V, refsIn.refsIns lv K (a ++ b) = (refsIn.refsIns lv K a && refsIn.refsIns lv K b)
  | [], b => by simp [refsIn.refsIns]
  | x :: r, b => by rw [List.cons_append, rI_cons, rI_cons, rI_app r b, Bool.and_assoc]
theorem r_d (x : D) : refsIn lv K (.d x) = true := nr rfl
theorem r_nils (e : TypeId) : refsIn lv K (.nils e) = true := nr rfl
theorem r_nila (e : TypeId) : refsIn lv K (.nila e) = true := nr rfl
theorem r_agg (t : TypeId) (vs : List V) : refsIn lv K (.agg t vs) = refsIn.refsIns lv K vs := nr rfl
theorem r_rs (e : TypeId) (k : Key) (ver off len : Nat) (full : Bool) : refsIn lv K (.rs e k ver off len full) = keyIn lv K k := nr rfl
theorem r_gl {e : TypeId} {k : Key} {ver : Nat} {ws : List V} (h : keyIn lv K k = true) : refsIn lv K (gl e k ver ws) = true := by cases ws with
  | nil => rfl
  | cons v vs => exact h
theorem vw_row {α : Type} (f : α → D) : ∀ l : List α, V.view.views st (rowV f l) = some (l.map f)
  | [] => rfl
  | x :: r => by rw [rowV_cons]; simp only [V.view.views, V.view, vw_row f r, List.map_cons]
def appO {α : Type} : Option (List α) → Option (List α) → Option (List α)
  | some a, some b => some (a ++ b)
  | _, _ => none
theorem appO_s {α : Type} (a b : List α) : appO (some a) (some b) = some (a ++ b) := nr rfl
theorem vw_app : ∀ a b : List V, V.view.views st (a ++ b) = appO (V.view.views st a) (V.view.views st b)
  | [], b => by
    rw [List.nil_append]
    show _ = appO (some []) (V.view.views st b)
    cases V.view.views st b <;> rfl
  | x :: r, b => by
    rw [List.cons_append]
    simp only [V.view.views, vw_app r b]
    cases V.view st x <;> cases V.view.views st r <;> cases V.view.views st b <;> rfl
end
theorem frzT_gl {st : Store} {lv : Nat} {K : List Bool} {e : TypeId} {k : Key} {ver : Nat} {α : Type} {f : α → D} {l : List α} (h1 : (st k).ver = ver) (h2 : GlB (st k) e (rowV f l)) (h3 : keyIn lv K k = false) : frzT false st st lv K (gl e k ver (rowV f l)) = some st := by
  by_cases hl : l = []
  · subst hl; rfl
  · obtain ⟨g1, g2, g3⟩ := h2 (by simpa [rowV] using hl)
    rw [gl_pos (by simpa [rowV] using hl), frzT_rs, if_pos h1, frzK_i, if_pos ⟨g3, h3, by rw [g2, rI_row]⟩, g2, vw_row]
    simp only
    congr 1
    funext j
    unfold upd
    cases hq : keq j k
    · rfl
    · have : j = k := by unfold keq at hq; simp only [Bool.and_eq_true, beq_iff_eq] at hq; exact Prod.ext hq.1 hq.2
      subst this
      rw [map_row, ← g2]
      show (⟨(st j).ver, (st j).e, (st j).vs, true⟩ : Blk) = st j
      rw [← g3]
end Go.Ev
namespace Go.Ev
/-! ### reading data back, pointers to data -/
def cP {α : Type} (c : Cod α) : Cod α := ⟨fun x => .ptr (c.e x), fun x y h => by
  simp only [D.ptr.injEq] at h
  exact c.inj _ _ h⟩
structure Dec {α : Type} (c : Cod α) where
  f : D → Option α
  ok : ∀ x y, f x = some y → c.e y = x
structure DecL {α : Type} (c : CodL α) where
  f : List D → Option α
  ok : ∀ x y, f x = some y → c.e y = x
def dI (k : IntKind) : Dec (cI k) := ⟨fun x => match x with | .int k' n => if k = k' then some n else none | _ => none, fun x y h => by
  cases x <;> simp only [reduceCtorEq] at h
  split at h
  · rename_i hk; cases h; subst hk; rfl
  · cases h⟩
def dB : Dec cB := ⟨fun x => match x with | .bool b => some b | _ => none, fun x y h => by
  cases x <;> simp only [reduceCtorEq] at h
  cases h; rfl⟩
def dS : Dec cS := ⟨fun x => match x with | .str s => some s | _ => none, fun x y h => by
  cases x <;> simp only [reduceCtorEq] at h
  cases h; rfl⟩
def decMap {α : Type} (f : D → Option α) : List D → Option (List α)
  | [] => some []
  | x :: r => match f x, decMap f r with
    | some y, some l => some (y :: l)
    | _, _ => none
theorem decMap_ok {α : Type} {c : Cod α} (d : Dec c) : ∀ (xs : List D) (l : List α), decMap d.f xs = some l → l.map c.e = xs
  | [], l, h => by cases h; rfl
  | x :: r, l, h => by
    simp only [decMap] at h
    split at h
    · rename_i y q h1 h2
      cases h
      rw [List.map_cons, d.ok _ _ h1, decMap_ok d r q h2]
    · cases h
def dL {α : Type} (t : TypeId) {c : Cod α} (d : Dec c) : Dec (cL t c) := ⟨fun x => match x with | .sl t' xs => if t = t' then decMap d.f xs else none | _ => none, fun x y h => by
  cases x <;> simp only [reduceCtorEq] at h
  split at h
  · rename_i hk; subst hk; exact congrArg (D.sl t) (decMap_ok d _ _ h)
  · cases h⟩
def dA {α : Type} (t : TypeId) {c : CodL α} (d : DecL c) : Dec (cA t c) := ⟨fun x => match x with | .agg t' xs => if t = t' then d.f xs else none | _ => none, fun x y h => by
  cases x <;> simp only [reduceCtorEq] at h
  split at h
  · rename_i hk; subst hk; exact congrArg (D.agg t) (d.ok _ _ h)
  · cases h⟩
def dP {α : Type} {c : Cod α} (d : Dec c) : Dec (cP c) := ⟨fun x => match x with | .ptr x => d.f x | _ => none, fun x y h => by
  cases x <;> simp only [reduceCtorEq] at h
  exact congrArg D.ptr (d.ok _ _ h)⟩
def dNil : DecL cNil := ⟨fun x => match x with | [] => some () | _ => none, fun x y h => by
  cases x <;> simp only [reduceCtorEq] at h
  rfl⟩
def dCons {α β : Type} {c : Cod α} {r : CodL β} (d : Dec c) (e : DecL r) : DecL (cCons c r) := ⟨fun x => match x with
  | x :: xs => (match d.f x, e.f xs with | some y, some z => some (y, z) | _, _ => none)
  | [] => none, fun x y h => by
  cases x with
  | nil => cases h
  | cons x xs =>
    simp only at h
    split at h
    · rename_i y z h1 h2
      cases h
      show c.e _ :: r.e _ = _
      rw [d.ok _ _ h1, e.ok _ _ h2]
    · cases h⟩
def specK {α β : Type} {c : CodL α} (d : DecL c) (p : α → Option β) (res : β → List D) : Spec := ⟨fun xs => match d.f xs with
  | some x => (match p x with | some r => some (res r) | none => none)
  | none => none⟩
theorem specK_ok {P : Program} {Γ : Specs} {T : Table} {f : FuncId} {α β : Type} {c : CodL α} (d : DecL c) {p : α → Option β} {res : β → List D} (hm : P.follows .mixedOrders = true) (hΓ : ∀ g s, look Γ g = some s → SpecOk P g s) (hT : TableOk P (Γ.map (·.1)) T)
    (h : ∀ x r, p x = some r → ∃ L n, evTop P Γ T L n f (c.e x) = some (res r)) : SpecOk P f (specK d p res) := spec_of_ev hm hΓ hT fun xs rs hr => by
  simp only [specK] at hr
  split at hr
  · rename_i x hx
    split at hr
    · rename_i r hp
      cases hr
      rw [← d.ok _ _ hx]
      exact h x r hp
    · cases hr
  · cases hr
/-! ### maps of numbers -/
def mapV {α : Type} (f : α → D) : List (Int × α) → List V
  | [] => []
  | p :: r => .d (.int .i64 p.1) :: .d (f p.2) :: mapV f r
theorem mx_u64 : IntKind.max .u64 = 18446744073709551615 := by decide
theorem mx_u32 : IntKind.max .u32 = 4294967295 := by decide
theorem mx_u16 : IntKind.max .u16 = 65535 := by decide
theorem mx_u8 : IntKind.max .u8 = 255 := by decide
theorem sg_i64 : IntKind.i64.signed = true := nr rfl
theorem sg_i32 : IntKind.i32.signed = true := nr rfl
theorem sg_i16 : IntKind.i16.signed = true := nr rfl
theorem sg_i8 : IntKind.i8.signed = true := nr rfl
theorem sg_u64 : IntKind.u64.signed = false := nr rfl
theorem sg_u32 : IntKind.u32.signed = false := nr rfl
theorem sg_u16 : IntKind.u16.signed = false := nr rfl
theorem sg_u8 : IntKind.u8.signed = false := nr rfl
theorem mapE_i (t : TypeId) : mapE t = 1000000 + t := nr rfl
theorem mapV_nil {α : Type} (f : α → D) : mapV f ([] : List (Int × α)) = [] := nr rfl
def mapG {α : Type} : List (Int × α) → Int → Option α
  | [], _ => none
  | p :: r, k => if k = p.1 then some p.2 else mapG r k
def mapP {α : Type} : List (Int × α) → Int → α → List (Int × α)
  | [], k, v => [(k, v)]
  | p :: r, k, v => if k = p.1 then (p.1, v) :: r else p :: mapP r k v
def mp2 (vs : List V) (k : Int) (x : V) : List V := (mput vs (.int .i64 k) x).getD []
theorem mget_map {α : Type} (f : α → D) (k : Int) : ∀ l : List (Int × α), mget (mapV f l) (.int .i64 k) = some ((mapG l k).map fun v => V.d (f v))
  | [] => rfl
  | p :: r => by
    have ih := mget_map f k r
    simp only [mapV, mget, sameK, if_true, mapG]
    by_cases h : k = p.1
    · simp [h]
    · simp [h, ih]
theorem mputs {α : Type} (f : α → D) (k : Int) (v : α) : ∀ l : List (Int × α), mput (mapV f l) (.int .i64 k) (.d (f v)) = some (mapV f (mapP l k v))
  | [] => rfl
  | p :: r => by
    have ih := mputs f k v r
    simp only [mapV, mput, sameK, if_true, mapP]
    by_cases h : k = p.1
    · simp [h, mapV]
    · simp [h, ih, consP, mapV]
theorem mputx {α : Type} (f : α → D) (k : Int) (x : V) : ∀ l : List (Int × α), ∃ vs, mput (mapV f l) (.int .i64 k) x = some vs
  | [] => ⟨_, rfl⟩
  | p :: r => by
    obtain ⟨vs, ih⟩ := mputx f k x r
    simp only [mapV, mput, sameK, if_true]
    by_cases h : k = p.1
    · simp [h]
    · simp [h, ih, consP]
theorem mput_map {α : Type} (f : α → D) (k : Int) (x : V) (l : List (Int × α)) : mput (mapV f l) (.int .i64 k) x = some (mp2 (mapV f l) k x) := by
  obtain ⟨vs, h⟩ := mputx f k x l
  rw [mp2, h]; rfl
theorem mapV_put {α : Type} (f : α → D) (l : List (Int × α)) (k : Int) (v : α) : mapV f (mapP l k v) = mp2 (mapV f l) k (.d (f v)) := by
  rw [mp2, mputs]; rfl
theorem mapV_len {α : Type} (f : α → D) : ∀ l : List (Int × α), (mapV f l).length = 2 * l.length
  | [] => rfl
  | p :: r => by simp [mapV, mapV_len f r]; omega
theorem mapV_half {α : Type} (f : α → D) (l : List (Int × α)) : (mapV f l).length / 2 = l.length := by rw [mapV_len]; omega
def mc {α β : Type} (o : Option α) (a : α → Option β) (b : Option β) : Option β := match o with
  | some v => a v
  | none => b
theorem mc_i {α β : Type} {G : Prop} {r : β} {o : Option α} {a : α → Option β} {b : Option β} (h1 : ∀ v, o = some v → a v = some r → G) (h2 : o = none → b = some r → G) : mc o a b = some r → G := by
  cases o with
  | none => exact h2 rfl
  | some v => exact h1 v rfl
theorem mc_s {α β : Type} (v : α) (a : α → Option β) (b : Option β) : mc (some v) a b = a v := rfl
theorem mc_n {α β : Type} (a : α → Option β) (b : Option β) : mc none a b = b := rfl
def nullS : Spec := ⟨fun _ => none⟩
theorem nullS_ok {P : Program} {f : FuncId} : SpecOk P f nullS := by
  intro xs rs S w vals h
  cases h
end Go.Ev
end
section
set_option linter.unusedVariables false
set_option linter.unusedSimpArgs false
namespace Go.Pl
open Go.Ev Go.IntKind
theorem w64 {x : Int} (h : -9223372036854775808 ≤ x ∧ x < 9223372036854775808) : i64.wrap x = x := IntWalk.i64_in _ (by omega)
theorem maxRow_v : maxRow = 140737488355328 := rfl
theorem idx_app {α : Type} (p : List α) (x : α) (s : List α) : idx (p ++ x :: s) (p.length : Int) = some x := by rw [idx_nat]; simp
theorem idx_at {α : Type} {l : List α} {i : Nat} (h : i < l.length) : idx l (i : Int) = some l[i] := by rw [idx_nat]; simp [h]
theorem idx_z {α : Type} (x : α) (s : List α) : idx (x :: s) 0 = some x := rfl
theorem ite_t {c : Prop} [Decidable c] {α : Type} {a b : α} (h : c) : (if c then a else b) = a := if_pos h
theorem ite_f {c : Prop} [Decidable c] {α : Type} {a b : α} (h : ¬ c) : (if c then a else b) = b := if_neg h
theorem cb_d {p : Prop} [Decidable p] {α : Type} (x y : Option α) : cb (decide p) x y = if p then x else y := by
  by_cases h : p
  · rw [decide_eq_true h, cb_t, if_pos h]
  · rw [decide_eq_false h, cb_f, if_neg h]
theorem cb_n {b : Bool} {α : Type} (x y : Option α) : cb (!b) x y = cb b y x := by cases b <;> rfl
theorem cb_v {b : Bool} {α : Type} (x y : Option α) : cb b x y = if b = true then x else y := by cases b <;> rfl
theorem min_v (a b : Int) : minI a b = min a b := by unfold minI; split <;> omega
theorem max_v (a b : Int) : maxI a b = max a b := by unfold maxI; split <;> omega
end Go.Pl
end
section
set_option linter.unusedVariables false
set_option linter.unusedSimpArgs false
set_option maxRecDepth 100000
namespace Go.Proofs.Ytnopgienncmcmaa.Ty
open Go.Ev
theorem tk2 : tk Try.prog 2 = .one := by kernel_rfl
theorem ik2 : intK Try.prog 2 = some .i64 := by kernel_rfl
theorem ek2 : ek Try.prog 2 = .int := by kernel_rfl
theorem zv2 : zeroV Try.prog 2 = some (.d (.int .i64 0)) := by kernel_rfl
theorem by2 : Try.prog.bytesOf 2 = 8 := by kernel_rfl
theorem so2 : szOf Try.prog 2 = 1 := by kernel_rfl
theorem tk3 : tk Try.prog 3 = .one := by kernel_rfl
theorem ik3 : intK Try.prog 3 = some .i64 := by kernel_rfl
theorem ek3 : ek Try.prog 3 = .int := by kernel_rfl
theorem zv3 : zeroV Try.prog 3 = some (.d (.int .i64 0)) := by kernel_rfl
theorem by3 : Try.prog.bytesOf 3 = 8 := by kernel_rfl
theorem so3 : szOf Try.prog 3 = 1 := by kernel_rfl
theorem tk4 : tk Try.prog 4 = .one := by kernel_rfl
theorem ub4 : Try.prog.underlying 4 = some .bool := by kernel_rfl
theorem ek4 : ek Try.prog 4 = .bool := by kernel_rfl
theorem zv4 : zeroV Try.prog 4 = some (.d (.bool false)) := by kernel_rfl
theorem by4 : Try.prog.bytesOf 4 = 1 := by kernel_rfl
theorem so4 : szOf Try.prog 4 = 1 := by kernel_rfl
theorem tk5 : tk Try.prog 5 = .one := by kernel_rfl
theorem ik5 : intK Try.prog 5 = some .u8 := by kernel_rfl
theorem ek5 : ek Try.prog 5 = .int := by kernel_rfl
theorem zv5 : zeroV Try.prog 5 = some (.d (.int .u8 0)) := by kernel_rfl
theorem by5 : Try.prog.bytesOf 5 = 1 := by kernel_rfl
theorem so5 : szOf Try.prog 5 = 1 := by kernel_rfl
theorem tk9 : tk Try.prog 9 = .one := by kernel_rfl
theorem ek9 : ek Try.prog 9 = .str := by kernel_rfl
theorem by9 : Try.prog.bytesOf 9 = 16 := by kernel_rfl
theorem so9 : szOf Try.prog 9 = 1 := by kernel_rfl
theorem tk20 : tk Try.prog 20 = .one := by kernel_rfl
theorem by20 : Try.prog.bytesOf 20 = 16 := by kernel_rfl
theorem so20 : szOf Try.prog 20 = 1 := by kernel_rfl
theorem tk22 : tk Try.prog 22 = .sl 42 := by kernel_rfl
theorem zv22 : zeroV Try.prog 22 = some (.nils 42) := by kernel_rfl
theorem by22 : Try.prog.bytesOf 22 = 24 := by kernel_rfl
theorem so22 : szOf Try.prog 22 = 1 := by kernel_rfl
theorem tk23 : tk Try.prog 23 = .sl 50 := by kernel_rfl
theorem zv23 : zeroV Try.prog 23 = some (.nils 50) := by kernel_rfl
theorem by23 : Try.prog.bytesOf 23 = 24 := by kernel_rfl
theorem so23 : szOf Try.prog 23 = 1 := by kernel_rfl
theorem tk24 : tk Try.prog 24 = .one := by kernel_rfl
theorem ik24 : intK Try.prog 24 = some .i64 := by kernel_rfl
theorem ek24 : ek Try.prog 24 = .int := by kernel_rfl
theorem zv24 : zeroV Try.prog 24 = some (.d (.int .i64 0)) := by kernel_rfl
theorem by24 : Try.prog.bytesOf 24 = 8 := by kernel_rfl
theorem so24 : szOf Try.prog 24 = 1 := by kernel_rfl
theorem tk30 : tk Try.prog 30 = .one := by kernel_rfl
theorem ik30 : intK Try.prog 30 = some .i64 := by kernel_rfl
theorem ek30 : ek Try.prog 30 = .int := by kernel_rfl
theorem zv30 : zeroV Try.prog 30 = some (.d (.int .i64 0)) := by kernel_rfl
theorem by30 : Try.prog.bytesOf 30 = 8 := by kernel_rfl
theorem so30 : szOf Try.prog 30 = 1 := by kernel_rfl
theorem tk31 : tk Try.prog 31 = .sl 37 := by kernel_rfl
theorem zv31 : zeroV Try.prog 31 = some (.nils 37) := by kernel_rfl
theorem by31 : Try.prog.bytesOf 31 = 24 := by kernel_rfl
theorem so31 : szOf Try.prog 31 = 1 := by kernel_rfl
theorem tk35 : tk Try.prog 35 = .one := by kernel_rfl
theorem ik35 : intK Try.prog 35 = some .i64 := by kernel_rfl
theorem ek35 : ek Try.prog 35 = .int := by kernel_rfl
theorem zv35 : zeroV Try.prog 35 = some (.d (.int .i64 0)) := by kernel_rfl
theorem by35 : Try.prog.bytesOf 35 = 8 := by kernel_rfl
theorem so35 : szOf Try.prog 35 = 1 := by kernel_rfl
theorem tk37 : tk Try.prog 37 = .agg 2 false := by kernel_rfl
theorem ct37 : compTs Try.prog 37 = [3, 35] := by kernel_rfl
theorem ek37 : ek Try.prog 37 = .agg := by kernel_rfl
theorem zv37 : zeroV Try.prog 37 = some (.d (.agg 37 [.int .i64 0, .int .i64 0])) := by kernel_rfl
theorem by37 : Try.prog.bytesOf 37 = 16 := by kernel_rfl
theorem so37 : szOf Try.prog 37 = 2 := by kernel_rfl
theorem tk40 : tk Try.prog 40 = .sl 47 := by kernel_rfl
theorem zv40 : zeroV Try.prog 40 = some (.nils 47) := by kernel_rfl
theorem by40 : Try.prog.bytesOf 40 = 24 := by kernel_rfl
theorem so40 : szOf Try.prog 40 = 1 := by kernel_rfl
theorem tk42 : tk Try.prog 42 = .agg 3 false := by kernel_rfl
theorem ct42 : compTs Try.prog 42 = [3, 3, 40] := by kernel_rfl
theorem zv42 : zeroV Try.prog 42 = some (.agg 42 [.d (.int .i64 0), .d (.int .i64 0), .nils 47]) := by kernel_rfl
theorem by42 : Try.prog.bytesOf 42 = 40 := by kernel_rfl
theorem so42 : szOf Try.prog 42 = 3 := by kernel_rfl
theorem tk45 : tk Try.prog 45 = .one := by kernel_rfl
theorem ik45 : intK Try.prog 45 = some .i64 := by kernel_rfl
theorem ek45 : ek Try.prog 45 = .int := by kernel_rfl
theorem zv45 : zeroV Try.prog 45 = some (.d (.int .i64 0)) := by kernel_rfl
theorem by45 : Try.prog.bytesOf 45 = 8 := by kernel_rfl
theorem so45 : szOf Try.prog 45 = 1 := by kernel_rfl
theorem tk47 : tk Try.prog 47 = .agg 3 false := by kernel_rfl
theorem ct47 : compTs Try.prog 47 = [45, 45, 4] := by kernel_rfl
theorem ek47 : ek Try.prog 47 = .agg := by kernel_rfl
theorem zv47 : zeroV Try.prog 47 = some (.d (.agg 47 [.int .i64 0, .int .i64 0, .bool false])) := by kernel_rfl
theorem by47 : Try.prog.bytesOf 47 = 24 := by kernel_rfl
theorem so47 : szOf Try.prog 47 = 3 := by kernel_rfl
theorem tk50 : tk Try.prog 50 = .sl 3 := by kernel_rfl
theorem zv50 : zeroV Try.prog 50 = some (.nils 3) := by kernel_rfl
theorem by50 : Try.prog.bytesOf 50 = 24 := by kernel_rfl
theorem so50 : szOf Try.prog 50 = 1 := by kernel_rfl
theorem tk51 : tk Try.prog 51 = .one := by kernel_rfl
theorem zv51 : zeroV Try.prog 51 = some (.jk) := by kernel_rfl
theorem by51 : Try.prog.bytesOf 51 = 8 := by kernel_rfl
theorem so51 : szOf Try.prog 51 = 1 := by kernel_rfl
theorem tk53 : tk Try.prog 53 = .one := by kernel_rfl
theorem zv53 : zeroV Try.prog 53 = some (.jk) := by kernel_rfl
theorem by53 : Try.prog.bytesOf 53 = 8 := by kernel_rfl
theorem so53 : szOf Try.prog 53 = 1 := by kernel_rfl
theorem tk56 : tk Try.prog 56 = .one := by kernel_rfl
theorem mt56 : mapT Try.prog 56 = some (3, 35) := by kernel_rfl
theorem sm56 : szOf Try.prog 1000056 = 0 := by kernel_rfl
theorem zw56_35 : zeroW Try.prog 35 = some (.d (.int .i64 0)) := by kernel_rfl
theorem zv56 : zeroV Try.prog 56 = some (.nilm) := by kernel_rfl
theorem by56 : Try.prog.bytesOf 56 = 8 := by kernel_rfl
theorem so56 : szOf Try.prog 56 = 1 := by kernel_rfl
theorem tk60 : tk Try.prog 60 = .one := by kernel_rfl
theorem zv60 : zeroV Try.prog 60 = some (.jk) := by kernel_rfl
theorem by60 : Try.prog.bytesOf 60 = 8 := by kernel_rfl
theorem so60 : szOf Try.prog 60 = 1 := by kernel_rfl
theorem tk61 : tk Try.prog 61 = .one := by kernel_rfl
theorem zv61 : zeroV Try.prog 61 = some (.jk) := by kernel_rfl
theorem by61 : Try.prog.bytesOf 61 = 8 := by kernel_rfl
theorem so61 : szOf Try.prog 61 = 1 := by kernel_rfl
theorem tk64 : tk Try.prog 64 = .agg 2 false := by kernel_rfl
theorem ct64 : compTs Try.prog 64 = [2, 2] := by kernel_rfl
theorem ek64 : ek Try.prog 64 = .agg := by kernel_rfl
theorem zv64 : zeroV Try.prog 64 = some (.d (.agg 64 [.int .i64 0, .int .i64 0])) := by kernel_rfl
theorem by64 : Try.prog.bytesOf 64 = 16 := by kernel_rfl
theorem so64 : szOf Try.prog 64 = 2 := by kernel_rfl
theorem tk68 : tk Try.prog 68 = .agg 3 false := by kernel_rfl
theorem ct68 : compTs Try.prog 68 = [3, 3, 35] := by kernel_rfl
theorem ek68 : ek Try.prog 68 = .agg := by kernel_rfl
theorem zv68 : zeroV Try.prog 68 = some (.d (.agg 68 [.int .i64 0, .int .i64 0, .int .i64 0])) := by kernel_rfl
theorem by68 : Try.prog.bytesOf 68 = 24 := by kernel_rfl
theorem so68 : szOf Try.prog 68 = 3 := by kernel_rfl
theorem tk69 : tk Try.prog 69 = .sl 68 := by kernel_rfl
theorem zv69 : zeroV Try.prog 69 = some (.nils 68) := by kernel_rfl
theorem by69 : Try.prog.bytesOf 69 = 24 := by kernel_rfl
theorem so69 : szOf Try.prog 69 = 1 := by kernel_rfl
theorem tk76 : tk Try.prog 76 = .one := by kernel_rfl
theorem zv76 : zeroV Try.prog 76 = some (.jk) := by kernel_rfl
theorem by76 : Try.prog.bytesOf 76 = 8 := by kernel_rfl
theorem so76 : szOf Try.prog 76 = 1 := by kernel_rfl
theorem tk77 : tk Try.prog 77 = .one := by kernel_rfl
theorem zv77 : zeroV Try.prog 77 = some (.jk) := by kernel_rfl
theorem by77 : Try.prog.bytesOf 77 = 8 := by kernel_rfl
theorem so77 : szOf Try.prog 77 = 1 := by kernel_rfl
theorem tk78 : tk Try.prog 78 = .one := by kernel_rfl
theorem ik78 : intK Try.prog 78 = some .u64 := by kernel_rfl
theorem ek78 : ek Try.prog 78 = .int := by kernel_rfl
theorem zv78 : zeroV Try.prog 78 = some (.d (.int .u64 0)) := by kernel_rfl
theorem by78 : Try.prog.bytesOf 78 = 8 := by kernel_rfl
theorem so78 : szOf Try.prog 78 = 1 := by kernel_rfl
theorem tk84 : tk Try.prog 84 = .one := by kernel_rfl
theorem zv84 : zeroV Try.prog 84 = some (.jk) := by kernel_rfl
theorem by84 : Try.prog.bytesOf 84 = 8 := by kernel_rfl
theorem so84 : szOf Try.prog 84 = 1 := by kernel_rfl
theorem tk85 : tk Try.prog 85 = .sl 45 := by kernel_rfl
theorem zv85 : zeroV Try.prog 85 = some (.nils 45) := by kernel_rfl
theorem by85 : Try.prog.bytesOf 85 = 24 := by kernel_rfl
theorem so85 : szOf Try.prog 85 = 1 := by kernel_rfl
theorem tk89 : tk Try.prog 89 = .one := by kernel_rfl
theorem zv89 : zeroV Try.prog 89 = some (.jk) := by kernel_rfl
theorem by89 : Try.prog.bytesOf 89 = 8 := by kernel_rfl
theorem so89 : szOf Try.prog 89 = 1 := by kernel_rfl
theorem tk98 : tk Try.prog 98 = .one := by kernel_rfl
theorem ik98 : intK Try.prog 98 = some .u64 := by kernel_rfl
theorem ek98 : ek Try.prog 98 = .int := by kernel_rfl
theorem zv98 : zeroV Try.prog 98 = some (.d (.int .u64 0)) := by kernel_rfl
theorem by98 : Try.prog.bytesOf 98 = 8 := by kernel_rfl
theorem so98 : szOf Try.prog 98 = 1 := by kernel_rfl
theorem tk104 : tk Try.prog 104 = .sl 24 := by kernel_rfl
theorem zv104 : zeroV Try.prog 104 = some (.nils 24) := by kernel_rfl
theorem by104 : Try.prog.bytesOf 104 = 24 := by kernel_rfl
theorem so104 : szOf Try.prog 104 = 1 := by kernel_rfl
theorem tk108 : tk Try.prog 108 = .agg 2 true := by kernel_rfl
theorem ct108 : compTs Try.prog 108 = [45, 45] := by kernel_rfl
theorem zv108 : zeroV Try.prog 108 = some (.d (.agg 108 [.int .i64 0, .int .i64 0])) := by kernel_rfl
theorem by108 : Try.prog.bytesOf 108 = 16 := by kernel_rfl
theorem so108 : szOf Try.prog 108 = 2 := by kernel_rfl
theorem tk111 : tk Try.prog 111 = .one := by kernel_rfl
theorem ik111 : intK Try.prog 111 = some .i64 := by kernel_rfl
theorem ek111 : ek Try.prog 111 = .int := by kernel_rfl
theorem zv111 : zeroV Try.prog 111 = some (.d (.int .i64 0)) := by kernel_rfl
theorem by111 : Try.prog.bytesOf 111 = 8 := by kernel_rfl
theorem so111 : szOf Try.prog 111 = 1 := by kernel_rfl
theorem tk120 : tk Try.prog 120 = .one := by kernel_rfl
theorem ik120 : intK Try.prog 120 = some .u32 := by kernel_rfl
theorem ek120 : ek Try.prog 120 = .int := by kernel_rfl
theorem zv120 : zeroV Try.prog 120 = some (.d (.int .u32 0)) := by kernel_rfl
theorem by120 : Try.prog.bytesOf 120 = 4 := by kernel_rfl
theorem so120 : szOf Try.prog 120 = 1 := by kernel_rfl
theorem tk124 : tk Try.prog 124 = .agg 2 false := by kernel_rfl
theorem ct124 : compTs Try.prog 124 = [2, 98] := by kernel_rfl
theorem ek124 : ek Try.prog 124 = .agg := by kernel_rfl
theorem zv124 : zeroV Try.prog 124 = some (.d (.agg 124 [.int .i64 0, .int .u64 0])) := by kernel_rfl
theorem by124 : Try.prog.bytesOf 124 = 16 := by kernel_rfl
theorem so124 : szOf Try.prog 124 = 2 := by kernel_rfl
theorem tk126 : tk Try.prog 126 = .sl 4 := by kernel_rfl
theorem zv126 : zeroV Try.prog 126 = some (.nils 4) := by kernel_rfl
theorem by126 : Try.prog.bytesOf 126 = 24 := by kernel_rfl
theorem so126 : szOf Try.prog 126 = 1 := by kernel_rfl
theorem tk127 : tk Try.prog 127 = .one := by kernel_rfl
theorem ik127 : intK Try.prog 127 = some .u64 := by kernel_rfl
theorem ek127 : ek Try.prog 127 = .int := by kernel_rfl
theorem zv127 : zeroV Try.prog 127 = some (.d (.int .u64 0)) := by kernel_rfl
theorem by127 : Try.prog.bytesOf 127 = 8 := by kernel_rfl
theorem so127 : szOf Try.prog 127 = 1 := by kernel_rfl
theorem tk131 : tk Try.prog 131 = .one := by kernel_rfl
theorem ek131 : ek Try.prog 131 = .ptr := by kernel_rfl
theorem zv131 : zeroV Try.prog 131 = some (.d (.np)) := by kernel_rfl
theorem by131 : Try.prog.bytesOf 131 = 8 := by kernel_rfl
theorem so131 : szOf Try.prog 131 = 1 := by kernel_rfl
theorem tk136 : tk Try.prog 136 = .one := by kernel_rfl
theorem ek136 : ek Try.prog 136 = .ptr := by kernel_rfl
theorem zv136 : zeroV Try.prog 136 = some (.d (.np)) := by kernel_rfl
theorem by136 : Try.prog.bytesOf 136 = 8 := by kernel_rfl
theorem so136 : szOf Try.prog 136 = 1 := by kernel_rfl
def k37 : Cod (Int × Int × Unit) := cA 37 (cCons (cI .i64) (cCons (cI .i64) cNil))
theorem k37_e (y : Int × Int × Unit) : k37.e y = .agg 37 [.int .i64 y.1, .int .i64 y.2.1] := nr rfl
def k47 : Cod (Int × Int × Bool × Unit) := cA 47 (cCons (cI .i64) (cCons (cI .i64) (cCons cB cNil)))
theorem k47_e (y : Int × Int × Bool × Unit) : k47.e y = .agg 47 [.int .i64 y.1, .int .i64 y.2.1, .bool y.2.2.1] := nr rfl
def k50 : Cod (List Int) := cL 3 (cI .i64)
theorem k50_e (y : List Int) : k50.e y = .sl 3 (y.map (D.int .i64)) := nr rfl
def k64 : Cod (Int × Int × Unit) := cA 64 (cCons (cI .i64) (cCons (cI .i64) cNil))
theorem k64_e (y : Int × Int × Unit) : k64.e y = .agg 64 [.int .i64 y.1, .int .i64 y.2.1] := nr rfl
def k68 : Cod (Int × Int × Int × Unit) := cA 68 (cCons (cI .i64) (cCons (cI .i64) (cCons (cI .i64) cNil)))
theorem k68_e (y : Int × Int × Int × Unit) : k68.e y = .agg 68 [.int .i64 y.1, .int .i64 y.2.1, .int .i64 y.2.2.1] := nr rfl
def k85 : Cod (List Int) := cL 45 (cI .i64)
theorem k85_e (y : List Int) : k85.e y = .sl 45 (y.map (D.int .i64)) := nr rfl
def k104 : Cod (List Int) := cL 24 (cI .i64)
theorem k104_e (y : List Int) : k104.e y = .sl 24 (y.map (D.int .i64)) := nr rfl
def k108 : Cod (Int × Int × Unit) := cA 108 (cCons (cI .i64) (cCons (cI .i64) cNil))
theorem k108_e (y : Int × Int × Unit) : k108.e y = .agg 108 [.int .i64 y.1, .int .i64 y.2.1] := nr rfl
def k124 : Cod (Int × Int × Unit) := cA 124 (cCons (cI .i64) (cCons (cI .u64) cNil))
theorem k124_e (y : Int × Int × Unit) : k124.e y = .agg 124 [.int .i64 y.1, .int .u64 y.2.1] := nr rfl
def k126 : Cod (List Bool) := cL 4 cB
theorem k126_e (y : List Bool) : k126.e y = .sl 4 (y.map D.bool) := nr rfl
def k23 : Cod (List (List Int)) := cL 50 k50
theorem k23_e (y : List (List Int)) : k23.e y = .sl 50 (y.map k50.e) := nr rfl
def k31 : Cod (List (Int × Int × Unit)) := cL 37 k37
theorem k31_e (y : List (Int × Int × Unit)) : k31.e y = .sl 37 (y.map k37.e) := nr rfl
def k40 : Cod (List (Int × Int × Bool × Unit)) := cL 47 k47
theorem k40_e (y : List (Int × Int × Bool × Unit)) : k40.e y = .sl 47 (y.map k47.e) := nr rfl
def k69 : Cod (List (Int × Int × Int × Unit)) := cL 68 k68
theorem k69_e (y : List (Int × Int × Int × Unit)) : k69.e y = .sl 68 (y.map k68.e) := nr rfl
def k42 : Cod (Int × Int × (List (Int × Int × Bool × Unit)) × Unit) := cA 42 (cCons (cI .i64) (cCons (cI .i64) (cCons k40 cNil)))
theorem k42_e (y : Int × Int × (List (Int × Int × Bool × Unit)) × Unit) : k42.e y = .agg 42 [.int .i64 y.1, .int .i64 y.2.1, .sl 47 (y.2.2.1.map k47.e)] := nr rfl
def k22 : Cod (List (Int × Int × (List (Int × Int × Bool × Unit)) × Unit)) := cL 42 k42
theorem k22_e (y : List (Int × Int × (List (Int × Int × Bool × Unit)) × Unit)) : k22.e y = .sl 42 (y.map k42.e) := nr rfl
theorem mixed : Try.prog.follows .mixedOrders = true := by kernel_rfl
end Go.Proofs.Ytnopgienncmcmaa.Ty
end
section
set_option linter.unusedVariables false
set_option linter.unusedSimpArgs false
set_option maxRecDepth 100000
namespace Go.Proofs.Ytnopgienncmcmaa.E
open Go.Ev
noncomputable def en4 : Entry := ⟨Try.f4, [(1000000, mb 50 0 [4])]⟩
theorem mk4_1000000 (vs : List V) : mask (maskOf en4.ms 1000000) vs = km 50 0 [4] vs := mask_mb _ _ _ _
end Go.Proofs.Ytnopgienncmcmaa.E
end
section
set_option linter.unusedVariables false
set_option linter.unusedSimpArgs false
set_option maxRecDepth 100000
namespace Go.Proofs.Ytnopgienncmcmaa.E
open Go.Ev
noncomputable def en10 : Entry := ⟨Try.f10, [(0, mb 36 0 [6, 7, 8, 19, 20, 21]), (1000001, mb 36 0 [7, 8]), (1000002, mb 36 0 [6, 7, 8, 19, 20, 21]), (1000000, mb 36 0 [4, 5])]⟩
theorem mk10_0 (vs : List V) : mask (maskOf en10.ms 0) vs = km 36 0 [6, 7, 8, 19, 20, 21] vs := mask_mb _ _ _ _
theorem mk10_1000001 (vs : List V) : mask (maskOf en10.ms 1000001) vs = km 36 0 [7, 8] vs := mask_mb _ _ _ _
theorem mk10_1000002 (vs : List V) : mask (maskOf en10.ms 1000002) vs = km 36 0 [6, 7, 8, 19, 20, 21] vs := mask_mb _ _ _ _
theorem mk10_1000000 (vs : List V) : mask (maskOf en10.ms 1000000) vs = km 36 0 [4, 5] vs := mask_mb _ _ _ _
theorem fz10_0 (lv : Nat) (f : Run) : frzF en10.ms lv 0 f = f := nr rfl
theorem fi10_0 (lv : Nat) (env : List V) (st : Store) (q : Store → Out) : frzI en10.ms lv 0 env st q = q st := nr rfl
noncomputable def lb10_0 : Code := loopN Try.f10 0
end Go.Proofs.Ytnopgienncmcmaa.E
end
section
set_option linter.unusedVariables false
set_option linter.unusedSimpArgs false
set_option maxRecDepth 100000
namespace Go.Proofs.Ytnopgienncmcmaa.E
open Go.Ev
noncomputable def en22 : Entry := ⟨Try.f22, [(0, mb 50 0 [1, 6, 7, 8]), (1000001, mb 50 0 [7]), (1000002, mb 50 0 [1, 6, 7, 8]), (1000000, mb 50 0 [4, 5])]⟩
theorem dw22_10 (lv : Nat) (env : List V) (st : Store) (o : Option (List V × Store)) : drawR en22.ms 10 lv env st o = if lv < 1000000000000000000000000000000 then (o) else none := nr rfl
theorem kl22_10 (lv : Nat) (st : Store) : killR en22.ms 10 lv st = st := nr rfl
theorem nc22_10 : ncOf en22.ms 10 = false := nr rfl
theorem mk22_0 (vs : List V) : mask (maskOf en22.ms 0) vs = km 50 0 [1, 6, 7, 8] vs := mask_mb _ _ _ _
theorem mk22_1000001 (vs : List V) : mask (maskOf en22.ms 1000001) vs = km 50 0 [7] vs := mask_mb _ _ _ _
theorem mk22_1000002 (vs : List V) : mask (maskOf en22.ms 1000002) vs = km 50 0 [1, 6, 7, 8] vs := mask_mb _ _ _ _
theorem mk22_1000000 (vs : List V) : mask (maskOf en22.ms 1000000) vs = km 50 0 [4, 5] vs := mask_mb _ _ _ _
theorem fz22_0 (lv : Nat) (f : Run) : frzF en22.ms lv 0 f = f := nr rfl
theorem fi22_0 (lv : Nat) (env : List V) (st : Store) (q : Store → Out) : frzI en22.ms lv 0 env st q = q st := nr rfl
noncomputable def lb22_0 : Code := loopN Try.f22 0
end Go.Proofs.Ytnopgienncmcmaa.E
end
section
set_option linter.unusedVariables false
set_option linter.unusedSimpArgs false
set_option maxRecDepth 100000
namespace Go.Proofs.Ytnopgienncmcmaa.E
open Go.Ev
noncomputable def en24 : Entry := ⟨Try.f24, [(1000000, mb 4 0 [2])]⟩
theorem mk24_1000000 (vs : List V) : mask (maskOf en24.ms 1000000) vs = km 4 0 [2] vs := mask_mb _ _ _ _
end Go.Proofs.Ytnopgienncmcmaa.E
end
section
set_option linter.unusedVariables false
set_option linter.unusedSimpArgs false
set_option maxRecDepth 100000
namespace Go.Proofs.Ytnopgienncmcmaa.E
open Go.Ev
noncomputable def en33 : Entry := ⟨Try.f33, [(1000000, mb 6 0 [2])]⟩
theorem mk33_1000000 (vs : List V) : mask (maskOf en33.ms 1000000) vs = km 6 0 [2] vs := mask_mb _ _ _ _
end Go.Proofs.Ytnopgienncmcmaa.E
end
section
set_option linter.unusedVariables false
set_option linter.unusedSimpArgs false
set_option maxRecDepth 100000
namespace Go.Proofs.Ytnopgienncmcmaa.E
open Go.Ev
noncomputable def en52 : Entry := ⟨Try.f52, [(1000000, mb 9 0 [4])]⟩
theorem mk52_1000000 (vs : List V) : mask (maskOf en52.ms 1000000) vs = km 9 0 [4] vs := mask_mb _ _ _ _
end Go.Proofs.Ytnopgienncmcmaa.E
end
section
set_option linter.unusedVariables false
set_option linter.unusedSimpArgs false
set_option maxRecDepth 100000
namespace Go.Proofs.Ytnopgienncmcmaa.E
open Go.Ev
noncomputable def en64 : Entry := ⟨Try.f64, [(0, mb 19 0 [0, 1, 7, 8]), (1000001, mb 19 0 []), (1000002, mb 19 0 [0, 1, 7, 8]), (1000000, mb 19 0 [4])]⟩
theorem mk64_0 (vs : List V) : mask (maskOf en64.ms 0) vs = km 19 0 [0, 1, 7, 8] vs := mask_mb _ _ _ _
theorem mk64_1000001 (vs : List V) : mask (maskOf en64.ms 1000001) vs = km 19 0 [] vs := mask_mb _ _ _ _
theorem mk64_1000002 (vs : List V) : mask (maskOf en64.ms 1000002) vs = km 19 0 [0, 1, 7, 8] vs := mask_mb _ _ _ _
theorem mk64_1000000 (vs : List V) : mask (maskOf en64.ms 1000000) vs = km 19 0 [4] vs := mask_mb _ _ _ _
theorem fz64_0 (lv : Nat) (f : Run) : frzF en64.ms lv 0 f = f := nr rfl
theorem fi64_0 (lv : Nat) (env : List V) (st : Store) (q : Store → Out) : frzI en64.ms lv 0 env st q = q st := nr rfl
noncomputable def lb64_0 : Code := loopN Try.f64 0
end Go.Proofs.Ytnopgienncmcmaa.E
end
section
set_option linter.unusedVariables false
set_option linter.unusedSimpArgs false
set_option maxRecDepth 100000
namespace Go.Proofs.Ytnopgienncmcmaa.P
open Go.Ev Go.IntKind Go.Proofs.Ytnopgienncmcmaa Go.Proofs.Ytnopgienncmcmaa.Ty Go.Proofs.Ytnopgienncmcmaa.E
def p_slices_Index_int_l0 (L : Nat) (a0 : List Int) (a1 : Int) : Nat → Int → Option (Sum Unit Int)
  | 0, s3 => some (.inl ())
  | tl + 1, s3 => bnd (idx a0 s3) fun x5 => cb (decide (a1 = x5)) (some (.inr s3)) (p_slices_Index_int_l0 L a0 a1 tl (s3 + 1))
def p_slices_Index_int (L : Nat) (a0 : List Int) (a1 : Int) : Option Int := rq ((a0.length : Int).toNat < L) <| rq ((a0.length : Int) < 4611686018427387904) <| bnd (p_slices_Index_int_l0 L a0 a1 (a0.length : Int).toNat 0) fun o6 => match o6 with | (.inl o6_0) => (some (-1)) | (.inr o6_1) => (some o6_1)
attribute [local go_sem] Ev.putR_s Ev.putR_0 Ev.thenO_s Ev.thenO_0 Ev.seqR_n Ev.seqR_e Ev.seqR_r Ev.seqR_0 Ev.blkR_e Ev.blkR_n Ev.blkR_r Ev.blkR_0 Ev.normR_s Ev.normR_0 Ev.outR_r Ev.outR_n Ev.outR_0 Ev.retS_s Ev.retS_0 Ev.pureO_s Ev.pureO_0 Ev.topR_0 Ev.topR_t Ev.topR_t0 Ev.oneL_0 Ev.oneL_s Ev.topR_d Ev.topR_nils Ev.topR_agg Ev.topR_rs Ev.evOp_move Ev.evOp_assign Ev.evOp_pick Ev.evOp_alloc Ev.evOp_box Ev.evOp_build Ev.evOp_buildSlice Ev.evOp_load Ev.evOp_store Ev.evOp_makeMap Ev.evOp_lookup Ev.evOp_mapUpdate Ev.evOp_insert Ev.evOp_nilCheck Ev.evOp_binOp Ev.evOp_unOp Ev.evOp_convert Ev.evOp_makeFunc Ev.evOp_makeSlice Ev.evOp_slice Ev.evOp_fieldAddr Ev.evOp_field Ev.evOp_indexAddr Ev.evOp_index Ev.evOp_extract Ev.evOp_call Ev.evOp_append Ev.evOp_clear Ev.evOp_len Ev.evLen_d Ev.evLen_rs Ev.evLen_nils Ev.evLen_nila Ev.evLen_mp Ev.evOp_min Ev.evOp_max Ev.condR_b Ev.condR_t Ev.evOps_nil Ev.evOps_plain Ev.evOps_guard Ev.runG_eq Ev.skipG_eq Ev.condL_tt Ev.condL_ff Ev.condL_tf Ev.condL_ft Ev.condL_u Ev.condC_t Ev.condC_f Ev.evC_skip Ev.evC_ret Ev.evC_exit Ev.evC_label Ev.evC_region Ev.evC_draw Ev.evC_seq Ev.evC_cond Ev.evC_block Ev.evC_loop Ev.fin_d Ev.fin_nila Ev.fin_nils Ev.fin_agg_ Ev.fin_rs Ev.finS_s Ev.mapO_fin Ev.upd_upd Ev.argv_d Ev.argv_nila Ev.argv_nils Ev.argv_agg Ev.argv_rs Ev.argv_p Ev.fk_low Ev.appendTo_nils Ev.appendTo_nila Ev.appendTo_rs Ev.consV_d Ev.consV_agg Ev.consV_p Ev.consV_rs Ev.consV_nila Ev.consV_nils Ev.consV_fn Ev.consV_und Ev.consV_jk Ev.consV_grown Ev.topR_grown Ev.len_grown Ev.consV_nilm Ev.consV_mp Ev.sameK_i Ev.sameK_s Ev.mget_0 Ev.mget_hit Ev.mget_miss Ev.mput_0 Ev.mput_hit Ev.mput_miss Ev.apartAll Ev.apartL Ev.apartV Ev.freeAll Ev.sel Ev.keyOfV Ev.evLookup Ev.evPut Ev.hintOk Ev.keyOk Ev.consP Ev.lookV Ev.guardV Ev.dstAt Ev.evPure Ev.evStore Ev.evBin Ev.evBinO Ev.evNil Ev.isNilC Ev.evUn Ev.evConv Ev.evSlice Ev.optI Ev.foldI Ev.capsOk Ev.noTup Ev.nth Ev.setN Ev.killAt Ev.pad Ev.V.get Ev.V.put Ev.putD Ev.newBlk Ev.upd Ev.keq Ev.empty Ev.evCall Ev.V.args Ev.argP Ev.callOf Ev.evNilP Ev.isNilP Ev.look Ev.V.view.views Ev.V.view Ev.V.toD Ev.V.toD.V.toDs Ev.V.pure.pures Ev.V.pure Ev.D.flat.flats Ev.D.flat Ev.mkAgg Ev.allD Ev.aggParts Ev.setParts Ev.setElems Ev.getPath Ev.setPath Ev.subL Ev.eqD Ev.eqD.eqDs Ev.and2 Ev.strCut Ev.evalT Ev.constT Ev.evArgs Ev.mask Ev.maskOf Ev.tableOf Ev.compT Ev.resV Ev.retV Ev.mapO Ev.mx_u64 Ev.mx_u32 Ev.mx_u16 Ev.mx_u8 Ev.sg_i64 Ev.sg_i32 Ev.sg_i16 Ev.sg_i8 Ev.sg_u64 Ev.sg_u32 Ev.sg_u16 Ev.sg_u8 Ev.mapE_i Ev.mapV_nil Ev.hT_nilm Ev.mget_map Ev.mput_map Ev.mapV_put Ev.mapV_half Ev.hT_nila Ev.eO_nila Ev.pL_nila Ev.evLen_gl Ev.r_nila Ev.frzO_n Ev.frzO_e Ev.frzO_r Ev.frzO_0 Ev.mb_z Ev.mb_0 Ev.mb_s Ev.frzL_t Ev.frzL_f Ev.frzL_0 Ev.frzT_nils Ev.frzT_rs Ev.frzT_p Ev.frzK_i Ev.keyIn_i Ev.rI_nil Ev.rI_cons Ev.rI_row Ev.rI_app Ev.r_d Ev.r_nils Ev.r_agg Ev.r_rs Ev.r_gl Ev.vw_row Ev.vw_app Ev.appO_s Ev.frzT_gl Ev.allD_gl Ev.killAt_i Ev.tkOne_i Ev.hT_agg Ev.hT_vagg Ev.hT_int Ev.hT_bool Ev.hT_str Ev.hT_sl Ev.hT_ptr Ev.hT_np Ev.hT_p Ev.hT_rs Ev.hT_mp Ev.hT_nils Ev.hT_fn Ev.hT_jk Ev.hT_gl Ev.eO_sl Ev.eO_nils Ev.eO_rs Ev.eT_sl Ev.eT_rs Ev.pL_str Ev.pL_sl Ev.pL_rs Ev.pL_nils Ev.pL_min Ev.pL_max Ev.len_glB Ev.noTup_gl Ev.rowV_len Ev.rowV_nil Ev.rowV_cons Ev.rowV_append Ev.rowV_set Ev.rowV_replicate Ev.nth_row Ev.row_take Ev.row_drop Ev.toDs_row Ev.fin_row Ev.map_row Ev.map_take_ Ev.map_drop_ Ev.Bk_i Ev.GlB_0 Ev.GlB_mk Ev.gl_nil Ev.gl_cons Ev.gl_snoc Ev.gl_setN Ev.appendTo_gl Ev.consV_gl Ev.elems_gl Ev.fin_gl Ev.view_gl Ev.argv_gl Ev.topR_gl Ev.sp_z Ev.sp_0 Ev.sp_s Ev.km_z Ev.km_0 Ev.km_s Ev.beq_toList Ev.nc0 Ev.bq_t Ev.bq_f Ev.bodyN Ev.le_maxRow Int.cast_ofNat_Int IntWalk.i64_in IntWalk.u64_in IntWalk.u8_in beq_self_eq_true Bool.true_beq Bool.false_beq Bool.and_true Bool.true_and Bool.false_and Bool.and_false Bool.and_self Bool.not_true Bool.not_false Bool.not_eq_true cond_true cond_false if_true if_false and_true true_and and_self decide_true decide_false Bool.or_true Bool.true_or Bool.or_false Bool.false_or List.isEmpty List.isEmpty_nil List.size_toArray List.map List.length_map List.length_cons List.length_nil Option.map Option.bind Option.getD Option.isSome List.replicate Bool.false_eq_true implies_true false_implies forall_const Array.toList Array.isEmpty List.append List.nil_append List.cons_append List.drop_zero List.take_length List.take_succ_cons List.take_zero List.take_nil List.getElem?_map List.getElem?_cons_zero List.getElem?_cons_succ List.getElem?_nil List.append_nil eq_self Int.toNat_natCast List.length_append Nat.zero_add Nat.add_zero List.length_replicate Nat.sub_zero Option.map_some Option.map_none Int.le_refl Nat.le_refl Int.natCast_nonneg List.map_append
attribute [local go_sem_proc] Nat.reduceAdd Nat.reduceSub Nat.reduceMul Nat.reduceEqDiff Nat.reduceBEq Nat.reduceLT Nat.reduceLeDiff Nat.reducePow Int.reduceToNat Int.reduceLT Int.reduceLE Int.reduceGT Int.reduceGE Int.reduceEq Int.reduceNeg Int.reduceAdd Int.reduceSub Int.reduceMul reduceCtorEq
attribute [local go_sem_proc ↓] reduceIte
noncomputable def G_slices_Index_int (L : Nat) : Specs := []
noncomputable def T_slices_Index_int : Table := tableOf [(64, en64)]
theorem Go_slices_Index_int (L : Nat) (hL : L ≤ 4611686018427387904) : ∀ g s, Ev.look (G_slices_Index_int L) g = some s → SpecOk Try.prog g s := specs_nil
theorem To_slices_Index_int (L : Nat) : TableOk Try.prog ((G_slices_Index_int L).map (·.1)) T_slices_Index_int := (table_cons Try.func64 (by kernel_rfl) (by kernel_rfl) table_nil)
attribute [local go_sem] Ty.tk3 Ty.ik3 Ty.ek3 Ty.zv3 Ty.by3 Ty.so3 Ty.tk4 Ty.ub4 Ty.ek4 Ty.zv4 Ty.by4 Ty.so4 Ty.tk50 Ty.zv50 Ty.by50 Ty.so50 Ty.k50_e E.mk64_0 E.mk64_1000001 E.mk64_1000002 E.mk64_1000000 E.fz64_0 E.fi64_0 E.lb64_0 loopN loops Try.f64
def Q0_p_slices_Index_int_l0 (a0 : List Int) (a1 : Int) (a2 : Int) (u : Unit) (z : Out) : Prop := ∃ env st, z = some (.exit 0, env, st) ∧ env = sp 19 0 []
def Q1_p_slices_Index_int_l0 (a0 : List Int) (a1 : Int) (a2 : Int) (u : Int) (z : Out) : Prop := ∃ env st, z = some (.ret, env, st) ∧ env = sp 19 0 [(4, .d (.int .i64 u))]
def Q_p_slices_Index_int_l0 (a0 : List Int) (a1 : Int) (a2 : Int) (o : Sum Unit Int) (z : Out) : Prop := match o with | (.inl u) => Q0_p_slices_Index_int_l0 a0 a1 a2 u z | (.inr u) => Q1_p_slices_Index_int_l0 a0 a1 a2 u z
theorem l_p_slices_Index_int_l0 (L : Nat) (hL : L ≤ 4611686018427387904) (a0 : List Int) (a1 : Int) (a2 : Int) : ∀ (tl n : Nat) (s3 : Int) (env : List V) (st : Store) (o : Sum Unit Int), tl < n → Cnt a2 s3 tl → mask (maskOf en64.ms 0) env = sp 19 0 [(0, .d (.sl 3 (a0.map (D.int .i64)))), (1, .d (.int .i64 a1)), (7, .d (.int .i64 a2)), (8, .d (.int .i64 s3))] → p_slices_Index_int_l0 L a0 a1 tl s3  = some o →
    Q_p_slices_Index_int_l0 a0 a1 a2 o (iter (evC Try.prog (G_slices_Index_int L) (evF Try.prog (G_slices_Index_int L) T_slices_Index_int L 0) L en64.ms 0 0 lb64_0) (maskOf en64.ms 0) n env st) := by
  intro tl
  induction tl with
  | zero =>
    intro n s3  env st o hn hR he  h
    obtain ⟨n, rfl⟩ : ∃ m, n = m + 1 := ⟨n - 1, by omega⟩
    have g0 := cnt_nil hR
    rw [iter, he]
    clear he
    generalize hK : iter _ _ n = K
    rw [p_slices_Index_int_l0] at h
    revert h
    rintro ⟨⟩
    simp only [go_sem, *]
    refine (⟨_, _, rfl, ?_⟩ : Q0_p_slices_Index_int_l0 _ _ _ _ _)
    all_goals simp only [go_sem, *]
  | succ tl ih =>
    intro n s3  env st o hn hR he  h
    obtain ⟨n, rfl⟩ : ∃ m, n = m + 1 := ⟨n - 1, by omega⟩
    replace ih : Hold _ := ih
    replace hR := cnt_s hR
    obtain ⟨g0, g1, g3, hR⟩ := hR
    rw [iter, he]
    clear he
    generalize hK : iter _ _ n = K
    rw [p_slices_Index_int_l0] at h
    revert h
    refine idx_i fun x5 c1 c2 c3 => ?_
    refine cb_i (fun c4 => ?_) (fun c4 => ?_)
    · rintro ⟨⟩
      simp only [go_sem, *]
      refine (⟨_, _, rfl, ?_⟩ : Q1_p_slices_Index_int_l0 _ _ _ _ _)
      all_goals simp only [go_sem, *]
    · intro h
      simp only [go_sem, *]
      subst hK
      refine ih n (s3 + 1)  _ _ _ (by omega) hR ?_ h
      all_goals simp only [go_sem, *]
theorem e_slices_Index_int (L : Nat) (hL : L ≤ 4611686018427387904) (a0 : List Int) (a1 : Int) (res : Int) (h : p_slices_Index_int L a0 a1 = some res) : evTop Try.prog (G_slices_Index_int L) T_slices_Index_int L 1 64 [.sl 3 (a0.map (D.int .i64)), .int .i64 a1] = some [.int .i64 res] := by
  revert h
  unfold p_slices_Index_int evTop
  simp only [List.map]
  rw [evF_s (fn := Try.f64) (msk := en64.ms) (hT := by rfl) (hb := by rfl)]
  refine rq_i fun c1 => ?_
  refine rq_i fun c2 => ?_
  refine bnd_i fun o6 ho3 => ?_
  intro h
  simp only [go_sem, *]
  generalize hz5 : iter _ _ _ _ _ = z4
  have hq6 : Q_p_slices_Index_int_l0 a0 a1 (a0.length : Int) o6 z4 := by
    rw [← hz5]
    refine l_p_slices_Index_int_l0 L hL a0 a1 (a0.length : Int) _ L 0  _ _ _ c1 (cnt_00 (by decide) c2) ?_ ho3
    all_goals simp only [go_sem, *]
  clear hz5 ho3
  rcases o6 with o6_0 | o6_1
  · obtain ⟨_, st7, rfl, rfl⟩ := hq6
    dsimp only at h
    revert h
    rintro ⟨⟩
    simp only [go_sem, *]
  · obtain ⟨_, st8, rfl, rfl⟩ := hq6
    dsimp only at h
    revert h
    rintro ⟨⟩
    simp only [go_sem, *]
noncomputable def s_slices_Index_int (L : Nat) : Ev.Spec := specP (cCons k50 (cCons (cI .i64) cNil)) (fun x => p_slices_Index_int L x.1 x.2.1) (fun r => [.int .i64 r])
theorem s_slices_Index_int_run (L : Nat) (a0 : List Int) (a1 : Int) : (s_slices_Index_int L).run [.sl 3 (a0.map (D.int .i64)), .int .i64 a1] = (p_slices_Index_int L a0 a1).map fun r => [.int .i64 r] := specP_run (cCons k50 (cCons (cI .i64) cNil)) (fun x => p_slices_Index_int L x.1 x.2.1) (fun r => [.int .i64 r]) (a0, a1, ())
theorem ok_slices_Index_int (L : Nat) (hL : L ≤ 4611686018427387904) : SpecOk Try.prog 64 (s_slices_Index_int L) := specP_ok mixed (Go_slices_Index_int L hL) (To_slices_Index_int L) fun x r h => ⟨L, 1, e_slices_Index_int L hL x.1 x.2.1 r h⟩
end Go.Proofs.Ytnopgienncmcmaa.P
end
section
set_option linter.unusedVariables false
set_option linter.unusedSimpArgs false
set_option maxRecDepth 100000
namespace Go.Proofs.Ytnopgienncmcmaa.P
open Go.Ev Go.IntKind Go.Proofs.Ytnopgienncmcmaa Go.Proofs.Ytnopgienncmcmaa.Ty Go.Proofs.Ytnopgienncmcmaa.E
def p_slices_Contains_int (L : Nat) (a0 : List Int) (a1 : Int) : Option Bool := bnd (p_slices_Index_int L a0 a1) fun r1 => some (decide (r1 ≥ 0))
attribute [local go_sem] Ev.putR_s Ev.putR_0 Ev.thenO_s Ev.thenO_0 Ev.seqR_n Ev.seqR_e Ev.seqR_r Ev.seqR_0 Ev.blkR_e Ev.blkR_n Ev.blkR_r Ev.blkR_0 Ev.normR_s Ev.normR_0 Ev.outR_r Ev.outR_n Ev.outR_0 Ev.retS_s Ev.retS_0 Ev.pureO_s Ev.pureO_0 Ev.topR_0 Ev.topR_t Ev.topR_t0 Ev.oneL_0 Ev.oneL_s Ev.topR_d Ev.topR_nils Ev.topR_agg Ev.topR_rs Ev.evOp_move Ev.evOp_assign Ev.evOp_pick Ev.evOp_alloc Ev.evOp_box Ev.evOp_build Ev.evOp_buildSlice Ev.evOp_load Ev.evOp_store Ev.evOp_makeMap Ev.evOp_lookup Ev.evOp_mapUpdate Ev.evOp_insert Ev.evOp_nilCheck Ev.evOp_binOp Ev.evOp_unOp Ev.evOp_convert Ev.evOp_makeFunc Ev.evOp_makeSlice Ev.evOp_slice Ev.evOp_fieldAddr Ev.evOp_field Ev.evOp_indexAddr Ev.evOp_index Ev.evOp_extract Ev.evOp_call Ev.evOp_append Ev.evOp_clear Ev.evOp_len Ev.evLen_d Ev.evLen_rs Ev.evLen_nils Ev.evLen_nila Ev.evLen_mp Ev.evOp_min Ev.evOp_max Ev.condR_b Ev.condR_t Ev.evOps_nil Ev.evOps_plain Ev.evOps_guard Ev.runG_eq Ev.skipG_eq Ev.condL_tt Ev.condL_ff Ev.condL_tf Ev.condL_ft Ev.condL_u Ev.condC_t Ev.condC_f Ev.evC_skip Ev.evC_ret Ev.evC_exit Ev.evC_label Ev.evC_region Ev.evC_draw Ev.evC_seq Ev.evC_cond Ev.evC_block Ev.evC_loop Ev.fin_d Ev.fin_nila Ev.fin_nils Ev.fin_agg_ Ev.fin_rs Ev.finS_s Ev.mapO_fin Ev.upd_upd Ev.argv_d Ev.argv_nila Ev.argv_nils Ev.argv_agg Ev.argv_rs Ev.argv_p Ev.fk_low Ev.appendTo_nils Ev.appendTo_nila Ev.appendTo_rs Ev.consV_d Ev.consV_agg Ev.consV_p Ev.consV_rs Ev.consV_nila Ev.consV_nils Ev.consV_fn Ev.consV_und Ev.consV_jk Ev.consV_grown Ev.topR_grown Ev.len_grown Ev.consV_nilm Ev.consV_mp Ev.sameK_i Ev.sameK_s Ev.mget_0 Ev.mget_hit Ev.mget_miss Ev.mput_0 Ev.mput_hit Ev.mput_miss Ev.apartAll Ev.apartL Ev.apartV Ev.freeAll Ev.sel Ev.keyOfV Ev.evLookup Ev.evPut Ev.hintOk Ev.keyOk Ev.consP Ev.lookV Ev.guardV Ev.dstAt Ev.evPure Ev.evStore Ev.evBin Ev.evBinO Ev.evNil Ev.isNilC Ev.evUn Ev.evConv Ev.evSlice Ev.optI Ev.foldI Ev.capsOk Ev.noTup Ev.nth Ev.setN Ev.killAt Ev.pad Ev.V.get Ev.V.put Ev.putD Ev.newBlk Ev.upd Ev.keq Ev.empty Ev.evCall Ev.V.args Ev.argP Ev.callOf Ev.evNilP Ev.isNilP Ev.look Ev.V.view.views Ev.V.view Ev.V.toD Ev.V.toD.V.toDs Ev.V.pure.pures Ev.V.pure Ev.D.flat.flats Ev.D.flat Ev.mkAgg Ev.allD Ev.aggParts Ev.setParts Ev.setElems Ev.getPath Ev.setPath Ev.subL Ev.eqD Ev.eqD.eqDs Ev.and2 Ev.strCut Ev.evalT Ev.constT Ev.evArgs Ev.mask Ev.maskOf Ev.tableOf Ev.compT Ev.resV Ev.retV Ev.mapO Ev.mx_u64 Ev.mx_u32 Ev.mx_u16 Ev.mx_u8 Ev.sg_i64 Ev.sg_i32 Ev.sg_i16 Ev.sg_i8 Ev.sg_u64 Ev.sg_u32 Ev.sg_u16 Ev.sg_u8 Ev.mapE_i Ev.mapV_nil Ev.hT_nilm Ev.mget_map Ev.mput_map Ev.mapV_put Ev.mapV_half Ev.hT_nila Ev.eO_nila Ev.pL_nila Ev.evLen_gl Ev.r_nila Ev.frzO_n Ev.frzO_e Ev.frzO_r Ev.frzO_0 Ev.mb_z Ev.mb_0 Ev.mb_s Ev.frzL_t Ev.frzL_f Ev.frzL_0 Ev.frzT_nils Ev.frzT_rs Ev.frzT_p Ev.frzK_i Ev.keyIn_i Ev.rI_nil Ev.rI_cons Ev.rI_row Ev.rI_app Ev.r_d Ev.r_nils Ev.r_agg Ev.r_rs Ev.r_gl Ev.vw_row Ev.vw_app Ev.appO_s Ev.frzT_gl Ev.allD_gl Ev.killAt_i Ev.tkOne_i Ev.hT_agg Ev.hT_vagg Ev.hT_int Ev.hT_bool Ev.hT_str Ev.hT_sl Ev.hT_ptr Ev.hT_np Ev.hT_p Ev.hT_rs Ev.hT_mp Ev.hT_nils Ev.hT_fn Ev.hT_jk Ev.hT_gl Ev.eO_sl Ev.eO_nils Ev.eO_rs Ev.eT_sl Ev.eT_rs Ev.pL_str Ev.pL_sl Ev.pL_rs Ev.pL_nils Ev.pL_min Ev.pL_max Ev.len_glB Ev.noTup_gl Ev.rowV_len Ev.rowV_nil Ev.rowV_cons Ev.rowV_append Ev.rowV_set Ev.rowV_replicate Ev.nth_row Ev.row_take Ev.row_drop Ev.toDs_row Ev.fin_row Ev.map_row Ev.map_take_ Ev.map_drop_ Ev.Bk_i Ev.GlB_0 Ev.GlB_mk Ev.gl_nil Ev.gl_cons Ev.gl_snoc Ev.gl_setN Ev.appendTo_gl Ev.consV_gl Ev.elems_gl Ev.fin_gl Ev.view_gl Ev.argv_gl Ev.topR_gl Ev.sp_z Ev.sp_0 Ev.sp_s Ev.km_z Ev.km_0 Ev.km_s Ev.beq_toList Ev.nc0 Ev.bq_t Ev.bq_f Ev.bodyN Ev.le_maxRow Int.cast_ofNat_Int IntWalk.i64_in IntWalk.u64_in IntWalk.u8_in beq_self_eq_true Bool.true_beq Bool.false_beq Bool.and_true Bool.true_and Bool.false_and Bool.and_false Bool.and_self Bool.not_true Bool.not_false Bool.not_eq_true cond_true cond_false if_true if_false and_true true_and and_self decide_true decide_false Bool.or_true Bool.true_or Bool.or_false Bool.false_or List.isEmpty List.isEmpty_nil List.size_toArray List.map List.length_map List.length_cons List.length_nil Option.map Option.bind Option.getD Option.isSome List.replicate Bool.false_eq_true implies_true false_implies forall_const Array.toList Array.isEmpty List.append List.nil_append List.cons_append List.drop_zero List.take_length List.take_succ_cons List.take_zero List.take_nil List.getElem?_map List.getElem?_cons_zero List.getElem?_cons_succ List.getElem?_nil List.append_nil eq_self Int.toNat_natCast List.length_append Nat.zero_add Nat.add_zero List.length_replicate Nat.sub_zero Option.map_some Option.map_none Int.le_refl Nat.le_refl Int.natCast_nonneg List.map_append
attribute [local go_sem_proc] Nat.reduceAdd Nat.reduceSub Nat.reduceMul Nat.reduceEqDiff Nat.reduceBEq Nat.reduceLT Nat.reduceLeDiff Nat.reducePow Int.reduceToNat Int.reduceLT Int.reduceLE Int.reduceGT Int.reduceGE Int.reduceEq Int.reduceNeg Int.reduceAdd Int.reduceSub Int.reduceMul reduceCtorEq
attribute [local go_sem_proc ↓] reduceIte
noncomputable def G_slices_Contains_int (L : Nat) : Specs := [(64, s_slices_Index_int L)]
noncomputable def T_slices_Contains_int : Table := tableOf [(52, en52)]
theorem Go_slices_Contains_int (L : Nat) (hL : L ≤ 4611686018427387904) : ∀ g s, Ev.look (G_slices_Contains_int L) g = some s → SpecOk Try.prog g s := (specs_cons (ok_slices_Index_int L hL) specs_nil)
theorem To_slices_Contains_int (L : Nat) : TableOk Try.prog ((G_slices_Contains_int L).map (·.1)) T_slices_Contains_int := (table_cons Try.func52 (by kernel_rfl) (by kernel_rfl) table_nil)
theorem lk_slices_Contains_int_64 (L : Nat) : Ev.look (G_slices_Contains_int L) 64 = some (s_slices_Index_int L) := nr rfl
attribute [local go_sem] Ty.tk3 Ty.ik3 Ty.ek3 Ty.zv3 Ty.by3 Ty.so3 Ty.tk4 Ty.ub4 Ty.ek4 Ty.zv4 Ty.by4 Ty.so4 Ty.tk50 Ty.zv50 Ty.by50 Ty.so50 Ty.k50_e E.mk52_1000000 lk_slices_Contains_int_64 s_slices_Index_int_run loopN loops Try.f52
theorem e_slices_Contains_int (L : Nat) (hL : L ≤ 4611686018427387904) (a0 : List Int) (a1 : Int) (res : Bool) (h : p_slices_Contains_int L a0 a1 = some res) : evTop Try.prog (G_slices_Contains_int L) T_slices_Contains_int L 1 52 [.sl 3 (a0.map (D.int .i64)), .int .i64 a1] = some [.bool res] := by
  revert h
  unfold p_slices_Contains_int evTop
  simp only [List.map]
  rw [evF_s (fn := Try.f52) (msk := en52.ms) (hT := by rfl) (hb := by rfl)]
  refine bnd_i fun r1 c1 => ?_
  rintro ⟨⟩
  simp only [go_sem, *]
noncomputable def s_slices_Contains_int (L : Nat) : Ev.Spec := specP (cCons k50 (cCons (cI .i64) cNil)) (fun x => p_slices_Contains_int L x.1 x.2.1) (fun r => [.bool r])
theorem s_slices_Contains_int_run (L : Nat) (a0 : List Int) (a1 : Int) : (s_slices_Contains_int L).run [.sl 3 (a0.map (D.int .i64)), .int .i64 a1] = (p_slices_Contains_int L a0 a1).map fun r => [.bool r] := specP_run (cCons k50 (cCons (cI .i64) cNil)) (fun x => p_slices_Contains_int L x.1 x.2.1) (fun r => [.bool r]) (a0, a1, ())
theorem ok_slices_Contains_int (L : Nat) (hL : L ≤ 4611686018427387904) : SpecOk Try.prog 52 (s_slices_Contains_int L) := specP_ok mixed (Go_slices_Contains_int L hL) (To_slices_Contains_int L) fun x r h => ⟨L, 1, e_slices_Contains_int L hL x.1 x.2.1 r h⟩
end Go.Proofs.Ytnopgienncmcmaa.P
end
section
set_option linter.unusedVariables false
set_option linter.unusedSimpArgs false
set_option maxRecDepth 100000
namespace Go.Proofs.Ytnopgienncmcmaa.P
open Go.Ev Go.IntKind Go.Proofs.Ytnopgienncmcmaa Go.Proofs.Ytnopgienncmcmaa.Ty Go.Proofs.Ytnopgienncmcmaa.E
def p_spyref3_half (L : Nat) (a0 : Int) : Option Bool := bnd (p_slices_Contains_int L ([1, 2, 4]) a0) fun r1 => some r1
attribute [local go_sem] Ev.putR_s Ev.putR_0 Ev.thenO_s Ev.thenO_0 Ev.seqR_n Ev.seqR_e Ev.seqR_r Ev.seqR_0 Ev.blkR_e Ev.blkR_n Ev.blkR_r Ev.blkR_0 Ev.normR_s Ev.normR_0 Ev.outR_r Ev.outR_n Ev.outR_0 Ev.retS_s Ev.retS_0 Ev.pureO_s Ev.pureO_0 Ev.topR_0 Ev.topR_t Ev.topR_t0 Ev.oneL_0 Ev.oneL_s Ev.topR_d Ev.topR_nils Ev.topR_agg Ev.topR_rs Ev.evOp_move Ev.evOp_assign Ev.evOp_pick Ev.evOp_alloc Ev.evOp_box Ev.evOp_build Ev.evOp_buildSlice Ev.evOp_load Ev.evOp_store Ev.evOp_makeMap Ev.evOp_lookup Ev.evOp_mapUpdate Ev.evOp_insert Ev.evOp_nilCheck Ev.evOp_binOp Ev.evOp_unOp Ev.evOp_convert Ev.evOp_makeFunc Ev.evOp_makeSlice Ev.evOp_slice Ev.evOp_fieldAddr Ev.evOp_field Ev.evOp_indexAddr Ev.evOp_index Ev.evOp_extract Ev.evOp_call Ev.evOp_append Ev.evOp_clear Ev.evOp_len Ev.evLen_d Ev.evLen_rs Ev.evLen_nils Ev.evLen_nila Ev.evLen_mp Ev.evOp_min Ev.evOp_max Ev.condR_b Ev.condR_t Ev.evOps_nil Ev.evOps_plain Ev.evOps_guard Ev.runG_eq Ev.skipG_eq Ev.condL_tt Ev.condL_ff Ev.condL_tf Ev.condL_ft Ev.condL_u Ev.condC_t Ev.condC_f Ev.evC_skip Ev.evC_ret Ev.evC_exit Ev.evC_label Ev.evC_region Ev.evC_draw Ev.evC_seq Ev.evC_cond Ev.evC_block Ev.evC_loop Ev.fin_d Ev.fin_nila Ev.fin_nils Ev.fin_agg_ Ev.fin_rs Ev.finS_s Ev.mapO_fin Ev.upd_upd Ev.argv_d Ev.argv_nila Ev.argv_nils Ev.argv_agg Ev.argv_rs Ev.argv_p Ev.fk_low Ev.appendTo_nils Ev.appendTo_nila Ev.appendTo_rs Ev.consV_d Ev.consV_agg Ev.consV_p Ev.consV_rs Ev.consV_nila Ev.consV_nils Ev.consV_fn Ev.consV_und Ev.consV_jk Ev.consV_grown Ev.topR_grown Ev.len_grown Ev.consV_nilm Ev.consV_mp Ev.sameK_i Ev.sameK_s Ev.mget_0 Ev.mget_hit Ev.mget_miss Ev.mput_0 Ev.mput_hit Ev.mput_miss Ev.apartAll Ev.apartL Ev.apartV Ev.freeAll Ev.sel Ev.keyOfV Ev.evLookup Ev.evPut Ev.hintOk Ev.keyOk Ev.consP Ev.lookV Ev.guardV Ev.dstAt Ev.evPure Ev.evStore Ev.evBin Ev.evBinO Ev.evNil Ev.isNilC Ev.evUn Ev.evConv Ev.evSlice Ev.optI Ev.foldI Ev.capsOk Ev.noTup Ev.nth Ev.setN Ev.killAt Ev.pad Ev.V.get Ev.V.put Ev.putD Ev.newBlk Ev.upd Ev.keq Ev.empty Ev.evCall Ev.V.args Ev.argP Ev.callOf Ev.evNilP Ev.isNilP Ev.look Ev.V.view.views Ev.V.view Ev.V.toD Ev.V.toD.V.toDs Ev.V.pure.pures Ev.V.pure Ev.D.flat.flats Ev.D.flat Ev.mkAgg Ev.allD Ev.aggParts Ev.setParts Ev.setElems Ev.getPath Ev.setPath Ev.subL Ev.eqD Ev.eqD.eqDs Ev.and2 Ev.strCut Ev.evalT Ev.constT Ev.evArgs Ev.mask Ev.maskOf Ev.tableOf Ev.compT Ev.resV Ev.retV Ev.mapO Ev.mx_u64 Ev.mx_u32 Ev.mx_u16 Ev.mx_u8 Ev.sg_i64 Ev.sg_i32 Ev.sg_i16 Ev.sg_i8 Ev.sg_u64 Ev.sg_u32 Ev.sg_u16 Ev.sg_u8 Ev.mapE_i Ev.mapV_nil Ev.hT_nilm Ev.mget_map Ev.mput_map Ev.mapV_put Ev.mapV_half Ev.hT_nila Ev.eO_nila Ev.pL_nila Ev.evLen_gl Ev.r_nila Ev.frzO_n Ev.frzO_e Ev.frzO_r Ev.frzO_0 Ev.mb_z Ev.mb_0 Ev.mb_s Ev.frzL_t Ev.frzL_f Ev.frzL_0 Ev.frzT_nils Ev.frzT_rs Ev.frzT_p Ev.frzK_i Ev.keyIn_i Ev.rI_nil Ev.rI_cons Ev.rI_row Ev.rI_app Ev.r_d Ev.r_nils Ev.r_agg Ev.r_rs Ev.r_gl Ev.vw_row Ev.vw_app Ev.appO_s Ev.frzT_gl Ev.allD_gl Ev.killAt_i Ev.tkOne_i Ev.hT_agg Ev.hT_vagg Ev.hT_int Ev.hT_bool Ev.hT_str Ev.hT_sl Ev.hT_ptr Ev.hT_np Ev.hT_p Ev.hT_rs Ev.hT_mp Ev.hT_nils Ev.hT_fn Ev.hT_jk Ev.hT_gl Ev.eO_sl Ev.eO_nils Ev.eO_rs Ev.eT_sl Ev.eT_rs Ev.pL_str Ev.pL_sl Ev.pL_rs Ev.pL_nils Ev.pL_min Ev.pL_max Ev.len_glB Ev.noTup_gl Ev.rowV_len Ev.rowV_nil Ev.rowV_cons Ev.rowV_append Ev.rowV_set Ev.rowV_replicate Ev.nth_row Ev.row_take Ev.row_drop Ev.toDs_row Ev.fin_row Ev.map_row Ev.map_take_ Ev.map_drop_ Ev.Bk_i Ev.GlB_0 Ev.GlB_mk Ev.gl_nil Ev.gl_cons Ev.gl_snoc Ev.gl_setN Ev.appendTo_gl Ev.consV_gl Ev.elems_gl Ev.fin_gl Ev.view_gl Ev.argv_gl Ev.topR_gl Ev.sp_z Ev.sp_0 Ev.sp_s Ev.km_z Ev.km_0 Ev.km_s Ev.beq_toList Ev.nc0 Ev.bq_t Ev.bq_f Ev.bodyN Ev.le_maxRow Int.cast_ofNat_Int IntWalk.i64_in IntWalk.u64_in IntWalk.u8_in beq_self_eq_true Bool.true_beq Bool.false_beq Bool.and_true Bool.true_and Bool.false_and Bool.and_false Bool.and_self Bool.not_true Bool.not_false Bool.not_eq_true cond_true cond_false if_true if_false and_true true_and and_self decide_true decide_false Bool.or_true Bool.true_or Bool.or_false Bool.false_or List.isEmpty List.isEmpty_nil List.size_toArray List.map List.length_map List.length_cons List.length_nil Option.map Option.bind Option.getD Option.isSome List.replicate Bool.false_eq_true implies_true false_implies forall_const Array.toList Array.isEmpty List.append List.nil_append List.cons_append List.drop_zero List.take_length List.take_succ_cons List.take_zero List.take_nil List.getElem?_map List.getElem?_cons_zero List.getElem?_cons_succ List.getElem?_nil List.append_nil eq_self Int.toNat_natCast List.length_append Nat.zero_add Nat.add_zero List.length_replicate Nat.sub_zero Option.map_some Option.map_none Int.le_refl Nat.le_refl Int.natCast_nonneg List.map_append
attribute [local go_sem_proc] Nat.reduceAdd Nat.reduceSub Nat.reduceMul Nat.reduceEqDiff Nat.reduceBEq Nat.reduceLT Nat.reduceLeDiff Nat.reducePow Int.reduceToNat Int.reduceLT Int.reduceLE Int.reduceGT Int.reduceGE Int.reduceEq Int.reduceNeg Int.reduceAdd Int.reduceSub Int.reduceMul reduceCtorEq
attribute [local go_sem_proc ↓] reduceIte
noncomputable def G_spyref3_half (L : Nat) : Specs := [(52, s_slices_Contains_int L)]
noncomputable def T_spyref3_half : Table := tableOf [(33, en33)]
theorem Go_spyref3_half (L : Nat) (hL : L ≤ 4611686018427387904) : ∀ g s, Ev.look (G_spyref3_half L) g = some s → SpecOk Try.prog g s := (specs_cons (ok_slices_Contains_int L hL) specs_nil)
theorem To_spyref3_half (L : Nat) : TableOk Try.prog ((G_spyref3_half L).map (·.1)) T_spyref3_half := (table_cons Try.func33 (by kernel_rfl) (by kernel_rfl) table_nil)
theorem lk_spyref3_half_52 (L : Nat) : Ev.look (G_spyref3_half L) 52 = some (s_slices_Contains_int L) := nr rfl
attribute [local go_sem] Ty.tk3 Ty.ik3 Ty.ek3 Ty.zv3 Ty.by3 Ty.so3 Ty.tk4 Ty.ub4 Ty.ek4 Ty.zv4 Ty.by4 Ty.so4 Ty.tk50 Ty.zv50 Ty.by50 Ty.so50 Ty.k50_e E.mk33_1000000 lk_spyref3_half_52 s_slices_Contains_int_run loopN loops Try.f33
theorem e_spyref3_half (L : Nat) (hL : L ≤ 4611686018427387904) (a0 : Int) (res : Bool) (h : p_spyref3_half L a0 = some res) : evTop Try.prog (G_spyref3_half L) T_spyref3_half L 1 33 [.int .i64 a0] = some [.bool res] := by
  revert h
  unfold p_spyref3_half evTop
  simp only [List.map]
  rw [evF_s (fn := Try.f33) (msk := en33.ms) (hT := by rfl) (hb := by rfl)]
  refine bnd_i fun r1 c1 => ?_
  have c2 := s_slices_Contains_int_run L [1, 2, 4] a0
  simp only [go_sem] at c2
  rintro ⟨⟩
  simp only [go_sem, *]
noncomputable def s_spyref3_half (L : Nat) : Ev.Spec := specP (cCons (cI .i64) cNil) (fun x => p_spyref3_half L x.1) (fun r => [.bool r])
theorem s_spyref3_half_run (L : Nat) (a0 : Int) : (s_spyref3_half L).run [.int .i64 a0] = (p_spyref3_half L a0).map fun r => [.bool r] := specP_run (cCons (cI .i64) cNil) (fun x => p_spyref3_half L x.1) (fun r => [.bool r]) (a0, ())
theorem ok_spyref3_half (L : Nat) (hL : L ≤ 4611686018427387904) : SpecOk Try.prog 33 (s_spyref3_half L) := specP_ok mixed (Go_spyref3_half L hL) (To_spyref3_half L) fun x r h => ⟨L, 1, e_spyref3_half L hL x.1 r h⟩
end Go.Proofs.Ytnopgienncmcmaa.P
end
section
set_option linter.unusedVariables false
set_option linter.unusedSimpArgs false
namespace Go.Ev
open Go.RowKit
section
variable {P : Program} {Γ : Specs} {L : Nat}
/-- A function of the table, whose calls go to the caller given. -/
def evB (P : Program) (Γ : Specs) (T : Table) (L : Nat) (base : Caller) : Caller := fun f xs lv st => match T f with
  | some en => match en.fn.body with
    | some code => outR P en.fn.results.toList (evC P Γ base L en.ms lv 0 code (pad xs en.fn.ntmps) st)
    | none => none
  | none => none
theorem evB_s {T : Table} {base : Caller} (f : FuncId) (xs : List V) (lv : Nat) (st : Store) (fn : Func) (msk : Masks) (code : Code) (hT : T f = some ⟨fn, msk⟩) (hb : fn.body = some code) :
    evB P Γ T L base f xs lv st = outR P fn.results.toList (evC P Γ base L msk lv 0 code (pad xs fn.ntmps) st) := by simp [evB, hT, hb]
theorem evB_sound {T : Table} {base : Caller} (hm : P.follows .mixedOrders = true) (hΓ : ∀ g s, look Γ g = some s → SpecOk P g s) (hT : TableOk P (Γ.map (·.1)) T) (hbase : CallerOk P base) : CallerOk P (evB P Γ T L base) := by
  intro f xs lv st v st' h B0 S σ w vals hI hx
  simp only [evB] at h
  split at h
  · rename_i en hen
    split at h
    · rename_i code hcode
      obtain ⟨t1, t2, t3⟩ := hT f en hen
      refine .inl ⟨en.fn, t1, t2, by rw [hcode]; rfl, ?_⟩
      refine calls_of_wp t1 hcode ?_
      cases hr : evC P Γ base L en.ms lv 0 code (pad xs en.fn.ntmps) st with
      | none => rw [hr] at h; cases h
      | some q =>
        obtain ⟨x, env', s⟩ := q
        rw [hr] at h
        have hout : x ≠ .normal → x = .ret ∨ ∃ i, x = .exit i := by cases x <;> simp
        have hres : (x = .ret ∨ x = .normal) ∧ ∃ vs, resV P s env' en.fn.results.toList = some vs ∧ v = retV vs ∧ st' = s := by
          cases x with
          | exit i => cases h
          | normal =>
            simp only [outR] at h
            cases hq : resV P s env' en.fn.results.toList with
            | none => rw [hq] at h; cases h
            | some vs => rw [hq] at h; cases h; exact ⟨.inr rfl, vs, rfl, rfl, rfl⟩
          | ret =>
            simp only [outR] at h
            cases hq : resV P s env' en.fn.results.toList with
            | none => rw [hq] at h; cases h
            | some vs => rw [hq] at h; cases h; exact ⟨.inl rfl, vs, rfl, rfl, rfl⟩
        obtain ⟨hx', vs, hvs, rfl, rfl⟩ := hres
        refine code_sound hm hΓ hbase code 0 (t3 code hcode) _ st x env' st' hr S σ w _ _ hI ?_ rfl ?_
        · have hlen := relNs_length hx
          refine ⟨by rw [pad_length]; simp [hlen] <;> omega, fun i => ?_⟩
          rw [pad_get]
          have := relNs_get i hx
          by_cases hi : i < vals.length
          · have e : (vals.toArray ++ Array.replicate (en.fn.ntmps - vals.toArray.size) undef).getD i undef = (vals[i]?).getD undef := by
              simp [Array.getD_eq_getD_getElem?, Array.getElem?_append, hi]
            rw [e]; exact this
          · have : V.get xs i = .und := by rw [get_eq]; simp [List.getD, List.getElem?_eq_none (show xs.length ≤ i by omega)]
            rw [this]; exact und_rel _
        · intro S' σ' w' a' q1 q2 q3 q4 q5
          obtain ⟨val, r1, r2⟩ := results_sound q1 q4 hvs
          rcases hx' with rfl | rfl <;> exact ⟨q5, val, r1, val, rfl, S', σ', q1, q2, q3, r2⟩
    · cases h
  · cases h
/-- The contract of a function, off any caller that keeps what it says. -/
theorem call_of_caller {call : Caller} {f : FuncId} (hc : CallerOk P call) {xs rs : List D} (htop : topR (call f (xs.map V.d) 0 empty) = some rs)
    {S : Nat → Prop} {w : World} {vals : List Value} (hS : ∀ b, S b → b < w.heap.size) (hargs : ArgsOk P S w xs vals) : CallIn P f vals.toArray w fun val w' => Below w.heap.size w w' ∧ ResOk P (Plus S w w') w' rs val := by
  cases hq : call f (xs.map V.d) 0 empty with
  | none => rw [hq] at htop; cases htop
  | some q =>
    obtain ⟨v, st'⟩ := q
    rw [hq] at htop
    refine (hc f (xs.map V.d) 0 empty v st' hq w.heap.size S (fun _ => none) w vals (inv_empty hS) (hargs _ _)).mono ?_
    rintro val w' ⟨S', σ', h1, h2, h3, h4⟩
    refine ⟨h3, fun σ0 st0 => ?_⟩
    have hS1 : ∀ b, S' b → Plus S w w' b := fun b hb => (h2.less b hb).imp id (fun q => ⟨q, h1.safe b hb⟩)
    have hN1 : ∀ b, w.heap.size ≤ b → b < w'.heap.size → Plus S w w' b := fun b q1 q2 => .inr ⟨q1, q2⟩
    by_cases hv : ∃ vs, v = .tup vs
    · obtain ⟨vs, rfl⟩ := hv
      obtain ⟨vals', g1, g2⟩ := h4
      have hm1 : mapO (V.fin st' 9) vs = some rs ∧ vs.length ≠ 1 := by
        cases vs with
        | nil => exact ⟨htop, by simp⟩
        | cons x r => cases r with
          | nil => cases htop
          | cons y r => exact ⟨htop, by simp⟩
      have g3 := fin_relNs (σ' := σ0) (st' := st0) h1 hS1 hN1 hm1.1 g2
      have hl1 := relNs_length g3
      have hl2 := relNs_length g2
      have hr : retV (rs.map V.d) = .tup (rs.map V.d) := by
        cases hq : rs.map V.d with
        | nil => rfl
        | cons x r => cases r with
          | nil => rw [hq] at hl1; simp at hl1; omega
          | cons y r => rfl
      rw [hr]
      exact ⟨vals', g1, g3⟩
    · have hn : ∀ vs, v ≠ .tup vs := fun vs e => hv ⟨vs, e⟩
      have htop' : oneL (V.fin st' 9 v) = some rs := by
        cases v <;> first | exact htop | exact absurd rfl (hn _)
      cases hq2 : V.fin st' 9 v with
      | none => rw [hq2] at htop'; cases htop'
      | some x =>
        rw [hq2] at htop'
        cases htop'
        exact RelN.to_v (fin_relN h1 hS1 hN1 hq2 (h4.n hn))
theorem spec_of_caller {f : FuncId} {α : Type} {c : CodL α} {pre : α → Prop} {out : α → List D} (h : ∀ x, pre x → ∃ call : Caller, CallerOk P call ∧ topR (call f ((c.e x).map V.d) 0 empty) = some (out x)) : SpecOk P f (specC c pre out) := by
  intro xs rs S w vals hrun hS hargs
  obtain ⟨x, rfl, hp, rfl⟩ := mkSpec_inv hrun
  obtain ⟨call, hc, ht⟩ := h x hp
  exact call_of_caller hc ht hS hargs
/-! ### a row sorted in place -/
def ints : List V → Option (List Int)
  | [] => some []
  | .d (.int .i64 n) :: r => match ints r with
    | some ns => some (n :: ns)
    | none => none
  | _ :: _ => none
def sortI (ns : List Int) : List Int := ns.mergeSort fun x y => decide (x ≤ y)
def iV (ns : List Int) : List V := ns.map fun n => .d (.int .i64 n)
theorem ints_iV : ∀ ns : List Int, ints (iV ns) = some ns
  | [] => rfl
  | n :: ns => by
    have := ints_iV ns
    simp only [iV, List.map_cons, ints] at this ⊢
    rw [this]
theorem ints_inv : ∀ {vs : List V} {ns : List Int}, ints vs = some ns → vs = iV ns
  | [], ns, h => by cases h; rfl
  | v :: r, ns, h => by
    unfold ints at h
    split at h
    · rename_i h1; cases h1
    · rename_i n r' h1
      cases h1
      split at h
      · rename_i ns' h2
        cases h
        rw [ints_inv h2]; rfl
      · cases h
    · cases h
theorem rels_iV {S : Nat → Prop} {σ : Sig} {st : Store} {w : World} : ∀ (ns : List Int), RelC.rels P S σ st w (iV ns) (ns.map fun n => [.int .i64 n])
  | [] => rfl
  | n :: ns => ⟨_, _, rfl, rfl, rels_iV ns⟩
theorem rels_iV_inv {S : Nat → Prop} {σ : Sig} {st : Store} {w : World} : ∀ {ns : List Int} {css : List (List Value)}, RelC.rels P S σ st w (iV ns) css → css = ns.map fun n => [.int .i64 n]
  | [], css, h => h
  | n :: ns, css, h => by
    obtain ⟨c, r, rfl, h1, h2⟩ := h
    rw [rels_iV_inv h2, List.map_cons]
    congr 1
theorem flat_iV (ns : List Int) : (ns.map fun n => [Value.int .i64 n]).flatten = ns.map (Value.int .i64) := by
  induction ns with
  | nil => rfl
  | cons n ns ih => simp [ih]
def SortOk (P : Program) (g : FuncId) : Prop := (∃ fn, P.funcs[g]? = some fn ∧ (fn.name == "runtime.NumGoroutine") = false ∧ fn.body.isNone = false) ∧
  (∀ (blk off cap : Nat) (zs : List Int) (w : World), Go.Sort.Holds (Value.int .i64) w blk off zs.toArray → blk < w.heap.size → zs.length < 4611686018427387904 →
    Calls P g #[.slice (some ⟨blk, off, none⟩) zs.length cap] w fun e w' => e = .returned (.tuple #[]) ∧ ∃ n os, w' = Go.Sort.grow (Go.Sort.putRow (Value.int .i64) (Go.Sort.ahead w n) blk off (zs.mergeSort fun x y => decide (x ≤ y)).toArray) os) ∧
  ∀ (p : Option Addr) (cap : Nat) (w : World), Calls P g #[.slice p 0 cap] w fun e w' => e = .returned (.tuple #[]) ∧ w' = w
def sortC (P : Program) (g : FuncId) : Caller := fun f xs lv st => match xs with
  | [.nils _] => if f = g then some (.tup [], st) else none
  | [.rs e k ver off len full] => if f = g ∧ (st k).ver = ver ∧ (st k).live = true ∧ off = 0 ∧ len = (st k).vs.length ∧ 0 < len ∧ len < 4611686018427387904 ∧ szOf P (st k).e = 1 then match ints (st k).vs with
      | some ns => some (.tup [], upd st k ⟨ver, (st k).e, iV (sortI ns), true⟩)
      | none => none
    else none
  | _ => none
def ahd (w : World) (k : Nat) : World := { w with drawn := k }
theorem put_eq_set (w : World) (b n : Nat) (cur : Array Value) (e : TypeId) (d : Array Int) (hb : w.heap[b]? = some (.cells cur e (0, 0))) :
    Go.Sort.putRow (Value.int .i64) (Go.Sort.ahead w n) b 0 d = ahd (w.setRow b (Go.Sort.putCells (Value.int .i64) 0 d cur)) (w.drawn + n) := by
  unfold Go.Sort.putRow Go.Sort.mapBlock Go.Sort.ahead World.setRow ahd
  simp only
  congr 1
  apply Array.ext_getElem?
  intro k
  simp only [Array.getElem?_modify]
  by_cases hk : b = k
  · subst hk
    simp [hb, Go.Sort.onCells]
  · simp [hk]
theorem sortC_ok {g : FuncId} (h : SortOk P g) : CallerOk P (sortC P g) := by
  obtain ⟨⟨fn, f1, f2, f3⟩, hs, hn⟩ := h
  intro f xs lv st v st' h B0 S σ w vals hI hx
  unfold sortC at h
  split at h
  · rename_i e
    split at h
    · rename_i hfg
      subst hfg
      cases h
      obtain ⟨x, r, rfl, hx1, hr⟩ := hx
      obtain rfl : r = [] := hr
      have hx2 : RelC P S σ st w (.nils e) [x] := by
        rcases hx1 with h | ⟨h, _⟩ | ⟨_, h⟩
        · cases h
        · cases h
        · exact h
      have hx3 : [x] = [Value.slice none 0 0] := hx2
      cases hx3
      refine .inl ⟨fn, f1, f2, f3, (hn none 0 w).mono ?_⟩
      rintro e' w' ⟨rfl, rfl⟩
      exact ⟨_, rfl, S, σ, hI, Evo.refl _ _ _ _, Below.refl _ _, [], rfl, rfl⟩
    · cases h
  · rename_i e k ver off len full
    split at h
    · rename_i hc
      obtain ⟨rfl, hver, hlive, hoff, hlen, hpos, hlt, hsz⟩ := hc
      split at h
      · rename_i ns hns
        cases h
        have hvs := ints_inv hns
        obtain ⟨x, r, rfl, hx1, hr⟩ := hx
        obtain rfl : r = [] := hr
        have hx2 : RelC P S σ st w (.rs e k ver off len full) [x] := by
          rcases hx1 with h | ⟨h, _⟩ | ⟨_, h⟩
          · cases h
          · cases h
          · exact h
        obtain ⟨A, c, hA, hlc, _, _, hrest⟩ := hx2
        cases hA
        obtain ⟨_, _, _, hplace⟩ := hrest hver.symm hlive
        have hnl : ns.length = len := by rw [hlen, hvs]; simp [iV]
        obtain ⟨hnone, hsome⟩ := (hI.own k hlive).row (by omega)
        cases hσ : σ k with
        | none =>
          have := hnone hσ
          rw [hlen, this] at hpos
          simp at hpos
        | some bc =>
          obtain ⟨b, cap⟩ := bc
          obtain ⟨p1, p2, p3⟩ := hplace b cap hσ
          obtain ⟨g1, g2, g3, cur, css, g4, g5, g6, g7, g8, g9, g10⟩ := hsome b cap hσ
          have hA : A = some ⟨b, 0, none⟩ := by
            rcases p1 with h0 | h0
            · omega
            · rw [h0, hoff]; simp
          subst hA
          rw [hvs] at g10
          have hcss := rels_iV_inv g10
          rw [hcss, flat_iV, hsz, Nat.mul_one, ← hlen] at g8
          rw [hsz, Nat.mul_one] at g5
          have hcell : ∀ j, j < ns.length → cur[j]? = some (.int .i64 ns[j]!) := by
            intro j hj
            have h1 := cell_of_take (cur := cur) (N := len) g8 (j := j) (by simpa using hj)
            rw [h1]
            simp [List.getElem?_map, List.getElem?_eq_getElem hj, getElem!_pos ns j hj]
          have hH : Go.Sort.Holds (Value.int .i64) w b 0 ns.toArray := by
            intro j hj
            have hj' : j < ns.length := by simpa using hj
            refine ⟨?_, frozen_of_row w b (0 + j) cur _ g4⟩
            rw [cell_of_row w b (0 + j) cur _ _ g4, Nat.zero_add, hcell j hj']
            simp [getElem!_pos, hj']
          refine .inl ⟨fn, f1, f2, f3, ?_⟩
          have hcall := hs b 0 c ns w hH g2 (by omega)
          rw [hnl] at hcall
          refine hcall.mono ?_
          rintro e' w' ⟨rfl, n, os, rfl⟩
          have hsl : (sortI ns).length = ns.length := by simp [sortI]
          rw [put_eq_set w b n cur _ _ g4, show ns.mergeSort (fun x y => decide (x ≤ y)) = sortI ns from rfl]
          have hrow := setRow_ok (k := k) (vs' := iV (sortI ns)) (css' := (sortI ns).map fun n => [.int .i64 n]) (cur' := Go.Sort.putCells (Value.int .i64) 0 (sortI ns).toArray cur) (b := b) (cap := cap) (v' := ver) hI (by omega) hlive hσ (by omega)
            (rels_iV _) (fun c hc => by obtain ⟨m, _, rfl⟩ := List.mem_map.1 hc; simp [hsz]) (by simp [Go.Sort.putCells, hsz, g5]) (by rw [hvs] at g6; simp [iV] at g6 ⊢; omega) (by
              rw [flat_iV, hsz, Nat.mul_one]
              apply List.ext_getElem?
              intro j
              simp only [iV, List.length_map, hsl]
              by_cases hj : j < ns.length
              · have hcj := hcell j hj
                rw [List.getElem?_take_of_lt hj, Array.getElem?_toList, Go.Sort.putCells, Array.getElem?_mapIdx, hcj]
                simp [hsl, hj, getElem!_pos]
              · rw [List.getElem?_eq_none (by simp; omega), List.getElem?_eq_none (by simp [hsl]; omega)])
          obtain ⟨i1, i2, i3⟩ := hrow
          generalize hw1 : w.setRow b (Go.Sort.putCells (Value.int .i64) 0 (sortI ns).toArray cur) = w1 at *
          have hb : Below w1.heap.size w1 (Go.Sort.grow (ahd w1 (w.drawn + n)) os) :=
            ⟨rfl, rfl, rfl, by simp [Go.Sort.grow, ahd], fun j hj => by simp [Go.Sort.grow, ahd, Array.getElem?_append, hj]⟩
          obtain ⟨j1, j2, j3⟩ := after_spec i1 hb
          exact ⟨_, rfl, _, _, j1, i2.trans j2, i3.trans j3, [], rfl, rfl⟩
      · cases h
    · cases h
  · cases h
end
end Go.Ev
end
