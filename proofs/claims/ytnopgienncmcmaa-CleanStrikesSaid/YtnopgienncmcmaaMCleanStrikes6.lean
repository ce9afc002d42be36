/- Parts of one proof, joined: EvY, PlBase, Ty, E42, E28, E43, G43, E49, G49, G28, G42, E29, G29, E50, G50, PlBndAQuanta, E27, E46, E62, E44, E45, E61. -/
import Derived.Test.YtnopgienncmcmaaMCleanStrikes5
import Derived.Test.YtnopgienncmcmaaProg
section
set_option linter.unusedVariables false
set_option linter.unusedSimpArgs false
namespace Go.Ev
/-! ### partial functions -/
def rq (c : Prop) [Decidable c] {α : Type} (k : Option α) : Option α := if c then k else none
theorem rq_e {c : Prop} [Decidable c] {α : Type} {k : Option α} {r : α} (h : rq c k = some r) : c ∧ k = some r := by
  unfold rq at h; split at h
  · exact ⟨by assumption, h⟩
  · cases h
theorem rq_t {c : Prop} [Decidable c] {α : Type} {k : Option α} (h : c) : rq c k = k := by unfold rq; rw [if_pos h]
theorem ite_e {c : Prop} [Decidable c] {α : Type} {x y : Option α} {r : α} (h : (if c then x else y) = some r) : (c ∧ x = some r) ∨ (¬ c ∧ y = some r) := by
  split at h
  · exact .inl ⟨by assumption, h⟩
  · exact .inr ⟨by assumption, h⟩
def cb (b : Bool) {α : Type} (x y : Option α) : Option α := if b = true then x else y
theorem cb_e {b : Bool} {α : Type} {x y : Option α} {r : α} (h : cb b x y = some r) : (b = true ∧ x = some r) ∨ (b = false ∧ y = some r) := by
  cases b
  · exact .inr ⟨rfl, h⟩
  · exact .inl ⟨rfl, h⟩
theorem cb_t {α : Type} {x y : Option α} : cb true x y = x := nr rfl
theorem cb_f {α : Type} {x y : Option α} : cb false x y = y := nr rfl
def bnd {α β : Type} (x : Option α) (f : α → Option β) : Option β := match x with | some v => f v | none => none
theorem bnd_e {α β : Type} {x : Option α} {f : α → Option β} {r : β} (h : bnd x f = some r) : ∃ v, x = some v ∧ f v = some r := by
  cases x with
  | none => cases h
  | some v => exact ⟨v, rfl, h⟩
theorem bnd_s {α β : Type} {v : α} {f : α → Option β} : bnd (some v) f = f v := nr rfl
theorem bnd_0 {α β : Type} {f : α → Option β} : bnd none f = none := nr rfl
def idx {α : Type} (l : List α) (i : Int) : Option α := if 0 ≤ i then l[i.toNat]? else none
theorem idx_e {α : Type} {l : List α} {i : Int} {v : α} (h : idx l i = some v) : 0 ≤ i ∧ i < (l.length : Int) ∧ l[i.toNat]? = some v := by
  unfold idx at h; split at h
  · rename_i h0
    obtain ⟨h1, _⟩ := List.getElem?_eq_some_iff.1 h
    exact ⟨h0, by omega, h⟩
  · cases h
theorem idx_s {α : Type} {l : List α} {i : Int} (h0 : 0 ≤ i) : idx l i = l[i.toNat]? := by unfold idx; rw [if_pos h0]
theorem idx_nat {α : Type} {l : List α} {i : Nat} : idx l (i : Int) = l[i]? := by unfold idx; rw [if_pos (by omega), Int.toNat_natCast]
def sat (s : ByteArray) (n : Int) : Option Int := if 0 ≤ n then (s[n.toNat]?).map fun b => (b.toNat : Int) else none
theorem sat_e {s : ByteArray} {n v : Int} (h : sat s n = some v) : strAt s n = some (.d (.int .u8 v)) := by
  unfold sat at h; unfold strAt
  split at h
  · rename_i h0
    rw [if_pos h0]
    cases hb : s[n.toNat]? with
    | none => rw [hb] at h; cases h
    | some b => rw [hb] at h; cases h; rfl
  · cases h
def Hold (p : Prop) : Prop := p
/-! ### rounds over a list, counted rounds -/
def Rng {α : Type} (l : List α) (i : Int) (tl : List α) : Prop := 0 ≤ i ∧ l.drop i.toNat = tl ∧ i.toNat ≤ l.length ∧ l.length < 4611686018427387904
theorem rng_0 {α : Type} {l : List α} {L : Nat} (h : l.length < L) (hL : L ≤ 4611686018427387904) : Rng l 0 l := ⟨Int.le_refl _, rfl, Nat.zero_le _, by omega⟩
theorem rng_nil {α : Type} {l : List α} {i : Int} (h : Rng l i []) : ¬ i < (l.length : Int) := by
  obtain ⟨h0, h1, h2, h3⟩ := h
  have := congrArg List.length h1
  simp at this
  omega
theorem rng_end {α : Type} {l : List α} {i : Int} (h : Rng l i []) : i = (l.length : Int) := by
  have h4 := rng_nil h
  obtain ⟨h0, h1, h2, h3⟩ := h
  omega
theorem rng_s {α : Type} {l tl : List α} {i : Int} {x : α} (h : Rng l i (x :: tl)) : 0 ≤ i ∧ i < (l.length : Int) ∧ l[i.toNat]? = some x ∧ IntKind.i64.wrap (i + 1) = i + 1 ∧ Rng l (i + 1) tl := by
  obtain ⟨h0, h1, h2, h3⟩ := h
  have hl := congrArg List.length h1
  simp at hl
  have hx : l[i.toNat]? = some x := by
    have := congrArg (fun q => q[0]?) h1
    simpa using this
  have ht : (i + 1).toNat = i.toNat + 1 := by omega
  refine ⟨h0, by omega, hx, IntWalk.i64_in _ (by omega), by omega, ?_, by omega, h3⟩
  rw [ht, ← List.drop_drop, h1]; rfl
def Cnt (n i : Int) (k : Nat) : Prop := 0 ≤ i ∧ (n - i).toNat = k ∧ n < 4611686018427387904
theorem cnt_0 {n i : Int} (h0 : 0 ≤ i) (h : n < 4611686018427387904) : Cnt n i (n - i).toNat := ⟨h0, rfl, h⟩
theorem cnt_00 {n : Int} (h0 : (0 : Int) ≤ 0) (h : n < 4611686018427387904) : Cnt n 0 n.toNat := ⟨h0, by rw [Int.sub_zero], h⟩
theorem cnt_nil {n i : Int} (h : Cnt n i 0) : ¬ i < n := by obtain ⟨h0, h1, h2⟩ := h; omega
theorem cnt_s {n i : Int} {k : Nat} (h : Cnt n i (k + 1)) : 0 ≤ i ∧ i < n ∧ IntKind.i64.wrap (i + 1) = i + 1 ∧ Cnt n (i + 1) k := by
  obtain ⟨h0, h1, h2⟩ := h
  exact ⟨h0, by omega, IntWalk.i64_in _ (by omega), by omega, by omega, h2⟩
/-! ### rows of typed values -/
def rowV {α : Type} (f : α → D) (l : List α) : List V := l.map fun x => V.d (f x)
section
variable {α : Type} (f : α → D)
theorem rowV_len (l : List α) : (rowV f l).length = l.length := by simp [rowV]
theorem rowV_nil : rowV f [] = [] := nr rfl
theorem rowV_cons (x : α) (l : List α) : rowV f (x :: l) = V.d (f x) :: rowV f l := nr rfl
theorem rowV_append (l m : List α) : rowV f (l ++ m) = rowV f l ++ rowV f m := by simp [rowV]
theorem rowV_set (l : List α) (i : Nat) (x : α) : rowV f (l.set i x) = setN (rowV f l) i (V.d (f x)) := by rw [setN_eq, rowV, rowV, List.map_set]
theorem rowV_replicate (n : Nat) (x : α) : rowV f (List.replicate n x) = List.replicate n (V.d (f x)) := by simp [rowV]
theorem nth_row (l : List α) (i : Nat) : nth (rowV f l) i = (l[i]?).map fun x => V.d (f x) := by rw [nth_eq, rowV, List.getElem?_map]
theorem row_take (l : List α) (n : Nat) : (rowV f l).take n = rowV f (l.take n) := by simp [rowV, List.map_take]
theorem row_drop (l : List α) (n : Nat) : (rowV f l).drop n = rowV f (l.drop n) := by simp [rowV, List.map_drop]
theorem toDs_row : ∀ l : List α, V.toD.V.toDs (rowV f l) = some (l.map f)
  | [] => rfl
  | x :: r => by rw [rowV_cons]; simp only [V.toD.V.toDs, V.toD, toDs_row r, List.map_cons]
theorem fin_row (st : Store) (n : Nat) : ∀ l : List α, mapO (V.fin st (n + 1)) (rowV f l) = some (l.map f)
  | [] => rfl
  | x :: r => by rw [rowV_cons]; simp only [mapO, fin_d, fin_row st n r, List.map_cons]
theorem map_row (l : List α) : (l.map f).map V.d = rowV f l := by simp [rowV]
theorem map_take_ (l : List α) (n : Nat) : (l.map f).take n = (l.take n).map f := by simp [List.map_take]
theorem map_drop_ (l : List α) (n : Nat) : (l.map f).drop n = (l.drop n).map f := by simp [List.map_drop]
end
def Bk (b : Blk) (e : TypeId) (vs : List V) : Prop := b.e = e ∧ b.vs = vs ∧ b.live = true
theorem Bk_i (b : Blk) (e : TypeId) (vs : List V) : Bk b e vs = (b.e = e ∧ b.vs = vs ∧ b.live = true) := nr rfl
/-! ### rows that are nil while they are empty -/
def gl (e : TypeId) (k : Key) (ver : Nat) : List V → V
  | [] => .nils e
  | v :: vs => .rs e k ver 0 (vs.length + 1) true
def GlB (b : Blk) (e : TypeId) (vs : List V) : Prop := vs ≠ [] → Bk b e vs
theorem GlB_0 (b : Blk) (e : TypeId) : GlB b e [] = True := eq_true fun h => absurd rfl h
theorem GlB_mk (v : Nat) (e : TypeId) (vs : List V) : GlB ⟨v, e, vs, true⟩ e vs = True := eq_true fun _ => ⟨rfl, rfl, rfl⟩
theorem GlB_of {b : Blk} {e : TypeId} {vs : List V} (h1 : b.e = e) (h2 : b.vs = vs) (h3 : b.live = true) : GlB b e vs := fun _ => ⟨h1, h2, h3⟩
theorem gl_nil (e : TypeId) (k : Key) (ver : Nat) : gl e k ver [] = .nils e := nr rfl
theorem gl_cons (e : TypeId) (k : Key) (ver : Nat) (v : V) (vs : List V) : gl e k ver (v :: vs) = .rs e k ver 0 (vs.length + 1) true := nr rfl
theorem gl_pos {e : TypeId} {k : Key} {ver : Nat} {vs : List V} (h : vs ≠ []) : gl e k ver vs = .rs e k ver 0 vs.length true := by cases vs; exact absurd rfl h; rfl
theorem gl_snoc (e : TypeId) (k : Key) (ver : Nat) (v : V) (ws vs : List V) : gl e k ver (ws ++ v :: vs) = .rs e k ver 0 (ws.length + (vs.length + 1)) true := by
  rw [gl_pos (by simp)]; simp
theorem gl_ne {α : Type} {f : α → D} {l : List α} {i : Nat} {x : α} (h : l[i]? = some x) (e : TypeId) (k : Key) (ver : Nat) : gl e k ver (rowV f l) = .rs e k ver 0 l.length true := by
  have hl : l ≠ [] := by intro h2; subst h2; simp at h
  rw [gl_pos (by simpa [rowV] using hl), rowV_len]
theorem gl_nz {α : Type} {f : α → D} {l : List α} (h : ¬ l.length = 0) (e : TypeId) (k : Key) (ver : Nat) : gl e k ver (rowV f l) = .rs e k ver 0 l.length true := by
  have hl : l ≠ [] := by intro h2; subst h2; exact h rfl
  rw [gl_pos (by simpa [rowV] using hl), rowV_len]
theorem row_nz {α : Type} {f : α → D} {l : List α} (h : ¬ l.length = 0) : rowV f l ≠ [] := by
  intro h2; cases l <;> simp [rowV] at h2 h
theorem gl_setN (e : TypeId) (k : Key) (ver : Nat) (vs : List V) (i : Nat) (x : V) : gl e k ver (setN vs i x) = gl e k ver vs := by
  cases vs with
  | nil => rfl
  | cons v vs => cases i <;> simp [setN, gl, setN_eq]
theorem row_ne {α : Type} {f : α → D} {l : List α} {i : Nat} {x : α} (h : l[i]? = some x) : rowV f l ≠ [] := by
  intro h2; cases l <;> simp [rowV] at h2 h
theorem appendTo_gl {P : Program} {lv : Nat} {d : Tmp} {st : Store} {e : TypeId} {k : Key} {ver : Nat} {vs new : List V} (h1 : (st k).ver = ver) (h2 : GlB (st k) e vs) (h3 : k = (lv, d)) (h4 : lv < 1000000000000000000000000000000)
    (h5 : vs.length + new.length ≤ maxRow) (h6 : (vs.length + new.length) * P.bytesOf e ≤ maxRow) :
    appendTo P lv d st e (gl e k ver vs) new = some (.rs e k (ver + 1) 0 (vs.length + new.length) true, upd st k ⟨ver + 1, e, vs ++ new, true⟩) := by
  subst h3
  cases vs with
  | nil =>
    rw [gl_nil, appendTo_nils, fk_low h4, if_pos ⟨rfl, by simpa using h6⟩, h1]
    simp [newBlk, h1]
  | cons v vs =>
    obtain ⟨g1, g2, g3⟩ := h2 (by simp)
    rw [gl_cons, appendTo_rs, if_pos ⟨h1, g3, rfl, rfl, by rw [g2]; rfl, rfl, h5, h6⟩, g2]
    rfl
theorem consV_gl (e : TypeId) (k : Key) (ver : Nat) (ws vs : List V) : consV (gl e k ver ws) vs = some (gl e k ver ws :: vs) := by cases ws <;> rfl
theorem len_gl (e : TypeId) (k : Key) (ver : Nat) (ws : List V) : lenV (gl e k ver ws) = some ws.length := by cases ws <;> rfl
theorem hasT_gl {P : Program} {t e : TypeId} {k : Key} {ver : Nat} {ws : List V} : hasT P t (gl e k ver ws) = (match tk P t with | .one | .sl _ => true | _ => false) := by cases ws <;> (unfold hasT gl; cases tk P t <;> rfl)
theorem len_glB (P : Program) (t e : TypeId) (k : Key) (ver : Nat) (ws : List V) : evPureB P .len [t] [gl e k ver ws] = (match tk P t with | .sl _ => some (.d (.int .i64 ws.length)) | _ => none) := by
  cases ws <;> (simp only [evPureB, gl, lenV]; cases tk P t <;> rfl)
theorem elems_gl {st : Store} {e : TypeId} {k : Key} {ver : Nat} {vs : List V} (h1 : (st k).ver = ver) (h2 : GlB (st k) e vs) : elemsOf st (gl e k ver vs) = some (e, vs) := by
  cases vs with
  | nil => rfl
  | cons v vs =>
    obtain ⟨g1, g2, g3⟩ := h2 (by simp)
    simp only [gl, elemsOf, g2]
    rw [if_pos ⟨h1, g3, by simp⟩, List.drop_zero, List.take_of_length_le (by simp)]
theorem fin_gl {st : Store} {e : TypeId} {k : Key} {ver n : Nat} {vs : List V} (h1 : (st k).ver = ver) (h2 : GlB (st k) e vs) : V.fin st (n + 1) (gl e k ver vs) = (mapO (V.fin st n) vs).map (D.sl e) := by
  have he := elems_gl h1 h2
  cases vs with
  | nil => rfl
  | cons v vs => simp only [gl] at he ⊢; rw [fin_rs, he]; rfl
theorem view_gl {st : Store} {e : TypeId} {k : Key} {ver : Nat} {vs : List V} (h1 : (st k).ver = ver) (h2 : GlB (st k) e vs) : V.view st (gl e k ver vs) = (V.toD.V.toDs vs).map (D.sl e) := by
  have he := elems_gl h1 h2
  cases vs with
  | nil => rfl
  | cons v vs => simp only [gl] at he ⊢; simp only [V.view, he]
theorem argv_gl (st : Store) (e : TypeId) (k : Key) (ver : Nat) (vs : List V) : V.arg st (gl e k ver vs) = V.view st (gl e k ver vs) := by cases vs <;> rfl
theorem topR_gl (st : Store) (e : TypeId) (k : Key) (ver : Nat) (vs : List V) : topR (some (gl e k ver vs, st)) = oneL (V.fin st 9 (gl e k ver vs)) := by cases vs <;> rfl
/-! ### places -/
def sp : Nat → Nat → List (Nat × V) → List V
  | 0, _, _ => []
  | n + 1, i, [] => .und :: sp n (i + 1) []
  | n + 1, i, (j, v) :: r => if i = j then v :: sp n (i + 1) r else .und :: sp n (i + 1) ((j, v) :: r)
theorem sp_z (i : Nat) (r : List (Nat × V)) : sp 0 i r = [] := nr rfl
theorem sp_0 (n i : Nat) : sp (n + 1) i [] = .und :: sp n (i + 1) [] := nr rfl
theorem sp_s (n i j : Nat) (v : V) (r : List (Nat × V)) : sp (n + 1) i ((j, v) :: r) = if i = j then v :: sp n (i + 1) r else .und :: sp n (i + 1) ((j, v) :: r) := nr rfl
/-- A mask by the places that are kept. -/
def mb : Nat → Nat → List Nat → List Bool
  | 0, _, _ => []
  | n + 1, i, [] => false :: mb n (i + 1) []
  | n + 1, i, j :: r => if i = j then true :: mb n (i + 1) r else false :: mb n (i + 1) (j :: r)
def km : Nat → Nat → List Nat → List V → List V
  | 0, _, _, vs => vs
  | n + 1, i, _, [] => []
  | n + 1, i, [], v :: vs => .und :: km n (i + 1) [] vs
  | n + 1, i, j :: r, v :: vs => if i = j then v :: km n (i + 1) r vs else .und :: km n (i + 1) (j :: r) vs
theorem mask_mb : ∀ (n i : Nat) (js : List Nat) (vs : List V), mask (mb n i js) vs = km n i js vs
  | 0, _, _, vs => by simp [mb, mask, km]
  | n + 1, i, [], [] => rfl
  | n + 1, i, j :: r, [] => by
    simp only [mb, km]; split <;> rfl
  | n + 1, i, [], v :: vs => by simp only [mb, mask, km, mask_mb n]
  | n + 1, i, j :: r, v :: vs => by
    simp only [mb, km]
    split <;> simp only [mask, mask_mb n]
theorem km_z (i : Nat) (js : List Nat) (vs : List V) : km 0 i js vs = vs := nr rfl
theorem km_0 (n i : Nat) (v : V) (vs : List V) : km (n + 1) i [] (v :: vs) = .und :: km n (i + 1) [] vs := nr rfl
theorem km_s (n i j : Nat) (r : List Nat) (v : V) (vs : List V) : km (n + 1) i (j :: r) (v :: vs) = if i = j then v :: km n (i + 1) r vs else .und :: km n (i + 1) (j :: r) vs := nr rfl
/-! ### contracts of partial functions -/
noncomputable def specP {α β : Type} (c : CodL α) (p : α → Option β) (res : β → List D) : Spec := specC c (fun x => (p x).isSome = true) fun x => match p x with | some r => res r | none => []
theorem specP_run {α β : Type} (c : CodL α) (p : α → Option β) (res : β → List D) (x : α) : (specP c p res).run (c.e x) = (p x).map res := by
  cases h : p x with
  | some r => unfold specP; rw [specC_run _ _ _ x (by rw [h]; rfl)]; simp only [h]; rfl
  | none =>
    cases h2 : (specP c p res).run (c.e x) with
    | none => rfl
    | some rs =>
      unfold specP specC at h2
      obtain ⟨y, h3, h4, _⟩ := mkSpec_inv h2
      have := c.inj _ _ h3
      subst this
      rw [h] at h4; cases h4
theorem specP_ok {P : Program} {Γ : Specs} {T : Table} {f : FuncId} {α β : Type} {c : CodL α} {p : α → Option β} {res : β → List D} (hm : P.follows .mixedOrders = true) (hΓ : ∀ g s, look Γ g = some s → SpecOk P g s) (hT : TableOk P (Γ.map (·.1)) T)
    (h : ∀ x r, p x = some r → ∃ L n, evTop P Γ T L n f (c.e x) = some (res r)) : SpecOk P f (specP c p res) := specC_ok hm hΓ hT fun x hp => by
  cases hx : p x with
  | none => rw [hx] at hp; cases hp
  | some r => exact h x r hx
def bodyN (fn : Func) : Code := match fn.body with | some c => c | none => .skip
theorem beq_toList (a b : ByteArray) : (a.toList == b.toList) = decide (a = b) := by
  have h : a.toList = b.toList ↔ a = b := by
    constructor
    · intro h
      rw [ByteArray.toList_eq, ByteArray.toList_eq] at h
      cases a; cases b
      simp only at h
      congr
      exact Array.toList_inj.1 h
    · intro h; rw [h]
  by_cases c : a = b
  · rw [decide_eq_true c, c]; simp
  · rw [decide_eq_false c]
    simp only [beq_eq_false_iff_ne, ne_eq]
    exact fun e => c (h.1 e)
theorem le_maxRow {n : Nat} (h : n ≤ 1000000) : (n ≤ maxRow) = True := eq_true (by unfold maxRow; omega)
theorem bq_t (b : Bool) : (b == true) = b := by cases b <;> rfl
theorem bq_f (b : Bool) : (b == false) = !b := by cases b <;> rfl
theorem nc0 : ((0 : Nat) : Int) = 0 := nr rfl
end Go.Ev
namespace Go.Ev
section
variable {α β : Type} {G : Prop} {r : β}
theorem rq_i {c : Prop} [Decidable c] {k : Option β} (h : c → k = some r → G) : rq c k = some r → G := fun q => h (rq_e q).1 (rq_e q).2
theorem ite_i {c : Prop} [Decidable c] {x y : Option β} (h1 : c → x = some r → G) (h2 : ¬ c → y = some r → G) : (if c then x else y) = some r → G := fun q => (ite_e q).elim (fun z => h1 z.1 z.2) fun z => h2 z.1 z.2
theorem cb_i {b : Bool} {x y : Option β} (h1 : b = true → x = some r → G) (h2 : b = false → y = some r → G) : cb b x y = some r → G := fun q => (cb_e q).elim (fun z => h1 z.1 z.2) fun z => h2 z.1 z.2
theorem bnd_i {x : Option α} {f : α → Option β} (h : ∀ v, x = some v → f v = some r → G) : bnd x f = some r → G := fun q => by obtain ⟨v, h1, h2⟩ := bnd_e q; exact h v h1 h2
theorem idx_i {l : List α} {i : Int} {f : α → Option β} (h : ∀ v, 0 ≤ i → i < (l.length : Int) → l[i.toNat]? = some v → f v = some r → G) : bnd (idx l i) f = some r → G := fun q => by
  obtain ⟨v, h1, h2⟩ := bnd_e q
  obtain ⟨g1, g2, g3⟩ := idx_e h1
  exact h v g1 g2 g3 h2
theorem sat_i {s : ByteArray} {i : Int} {f : Int → Option β} (h : ∀ v, strAt s i = some (.d (.int .u8 v)) → f v = some r → G) : bnd (sat s i) f = some r → G := fun q => by
  obtain ⟨v, h1, h2⟩ := bnd_e q
  exact h v (sat_e h1) h2
end
end Go.Ev
namespace Go.Ev
section
variable (P : Program) (t e : TypeId) (st : Store)
def tkOne (P : Program) (t : TypeId) : Bool := match tk P t with | .one | .sl _ => true | _ => false
theorem tkOne_i : tkOne P t = (match tk P t with | .one | .sl _ => true | _ => false) := nr rfl
theorem hT_agg (t' : TypeId) (ds : List D) : hasT P t (.d (.agg t' ds)) = (t' == t && (match tk P t with | .agg _ _ => true | _ => false)) := nr rfl
theorem hT_vagg (t' : TypeId) (vs : List V) : hasT P t (.agg t' vs) = (t' == t && (match tk P t with | .agg _ _ => true | _ => false)) := nr rfl
theorem hT_int (k : IntKind) (n : Int) : hasT P t (.d (.int k n)) = tkOne P t := nr rfl
theorem hT_bool (b : Bool) : hasT P t (.d (.bool b)) = tkOne P t := nr rfl
theorem hT_str (s : ByteArray) : hasT P t (.d (.str s)) = tkOne P t := nr rfl
theorem hT_sl (ds : List D) : hasT P t (.d (.sl e ds)) = tkOne P t := nr rfl
theorem hT_ptr (x : D) : hasT P t (.d (.ptr x)) = tkOne P t := nr rfl
theorem hT_np : hasT P t (.d .np) = tkOne P t := nr rfl
theorem hT_p (k : Key) (ver i : Nat) (path : List (TypeId × Nat)) : hasT P t (.p k ver i path) = tkOne P t := nr rfl
theorem hT_rs (k : Key) (ver off len : Nat) (full : Bool) : hasT P t (.rs e k ver off len full) = tkOne P t := nr rfl
theorem hT_mp (k : Key) (ver : Nat) : hasT P t (.mp k ver) = tkOne P t := nr rfl
theorem hT_nils : hasT P t (.nils e) = tkOne P t := nr rfl
theorem hT_nila : hasT P t (.nila e) = tkOne P t := nr rfl
theorem hT_fn (f : FuncId) (c : List V) : hasT P t (.fn f c) = tkOne P t := nr rfl
theorem hT_jk : hasT P t .jk = tkOne P t := nr rfl
theorem hT_gl (k : Key) (ver : Nat) (ws : List V) : hasT P t (gl e k ver ws) = tkOne P t := by cases ws <;> rfl
theorem allD_gl (k : Key) (ver : Nat) (ws r : List V) : allD (gl e k ver ws :: r) = none := by cases ws <;> rfl
theorem eO_sl (ds : List D) : elemsOf st (.d (.sl e ds)) = some (e, ds.map V.d) := nr rfl
theorem eO_nils : elemsOf st (.nils e) = some (e, []) := nr rfl
theorem eO_nila : elemsOf st (.nila e) = some (e, []) := nr rfl
theorem eO_rs (k : Key) (ver off len : Nat) (full : Bool) : elemsOf st (.rs e k ver off len full) = if (st k).ver = ver ∧ (st k).live = true ∧ off + len ≤ (st k).vs.length then some (e, ((st k).vs.drop off).take len) else none := nr rfl
theorem eT_sl (ds : List D) : elemT (.d (.sl e ds)) = some e := nr rfl
theorem eT_rs (k : Key) (ver off len : Nat) (full : Bool) : elemT (.rs e k ver off len full) = some e := nr rfl
theorem pL_str (s : ByteArray) : evPureB P .len [t] [.d (.str s)] = if ek P t = .str then some (.d (.int .i64 s.size)) else none := nr rfl
theorem pL_sl (ds : List D) : evPureB P .len [t] [.d (.sl e ds)] = (match tk P t with | .sl _ => some (.d (.int .i64 ds.length)) | _ => none) := by simp only [evPureB, lenV]; cases tk P t <;> rfl
theorem pL_rs (k : Key) (ver off len : Nat) (full : Bool) : evPureB P .len [t] [.rs e k ver off len full] = (match tk P t with | .sl _ => some (.d (.int .i64 len)) | _ => none) := by simp only [evPureB, lenV]; cases tk P t <;> rfl
theorem pL_nils : evPureB P .len [t] [.nils e] = (match tk P t with | .sl _ => some (.d (.int .i64 0)) | _ => none) := by simp only [evPureB, lenV]; cases tk P t <;> rfl
theorem pL_nila : evPureB P .len [t] [.nila e] = (match tk P t with | .sl _ => some (.d (.int .i64 0)) | _ => none) := by simp only [evPureB, lenV]; cases tk P t <;> rfl
theorem evLen_gl (Γ : Specs) (ts : List TypeId) (k : Key) (ver : Nat) (ws : List V) : evLen P Γ st ts [gl e k ver ws] = evPureB P .len ts [gl e k ver ws] := by cases ws <;> rfl
theorem nl_nils (op : BinOp) : evNil op (.nils e) = (match op with | .eql => some (.d (.bool true)) | .neq => some (.d (.bool false)) | _ => none) := by cases op <;> rfl
theorem pL_min (ts : List TypeId) (k : IntKind) (a : Int) (r : List V) : evPureB P .min ts (.d (.int k a) :: r) = foldI minI k r (some a) := nr rfl
theorem pL_max (ts : List TypeId) (k : IntKind) (a : Int) (r : List V) : evPureB P .max ts (.d (.int k a) :: r) = foldI maxI k r (some a) := nr rfl
theorem noTup_gl (k : Key) (ver : Nat) (ws r : List V) : noTup (gl e k ver ws :: r) = noTup r := by cases ws <;> rfl
end
end Go.Ev
namespace Go.Ev
/-! ### rows that are turned to data -/
section
variable (kp : Bool) (st0 st : Store) (lv : Nat) (K : List Bool)
theorem frzO_n (m : List Bool) (env : List V) : frzO kp lv m K (some (.normal, env, st)) = (match frzL kp st lv K m env st with | some st' => some (.normal, env, killL lv K 0 st') | none => none) := nr rfl
theorem frzO_e (m : List Bool) (i : Nat) (env : List V) : frzO kp lv m K (some (.exit i, env, st)) = some (.exit i, env, st) := nr rfl
theorem frzO_r (m : List Bool) (env : List V) : frzO kp lv m K (some (.ret, env, st)) = some (.ret, env, st) := nr rfl
theorem frzO_0 (m : List Bool) : frzO kp lv m K none = none := nr rfl
theorem mb_z (i : Nat) (js : List Nat) : mb 0 i js = [] := nr rfl
theorem mb_0 (n i : Nat) : mb (n + 1) i [] = false :: mb n (i + 1) [] := nr rfl
theorem mb_s (n i j : Nat) (r : List Nat) : mb (n + 1) i (j :: r) = if i = j then true :: mb n (i + 1) r else false :: mb n (i + 1) (j :: r) := nr rfl
theorem frzL_t (m : List Bool) (v : V) (vs : List V) : frzL kp st0 lv K (true :: m) (v :: vs) st = (match frzT kp st0 st lv K v with | some st' => frzL kp st0 lv K m vs st' | none => none) := nr rfl
theorem frzL_f (m : List Bool) (v : V) (vs : List V) : frzL kp st0 lv K (false :: m) (v :: vs) st = frzL kp st0 lv K m vs st := nr rfl
theorem frzL_0 (vs : List V) : frzL kp st0 lv K [] vs st = some st := nr rfl
theorem frzT_nils (e : TypeId) : frzT kp st0 st lv K (.nils e) = some st := nr rfl
theorem frzT_rs (e : TypeId) (k : Key) (ver off len : Nat) (full : Bool) : frzT kp st0 st lv K (.rs e k ver off len full) = if (st0 k).ver = ver then frzK kp st0 st lv K k else none := nr rfl
theorem frzT_p (k : Key) (ver i : Nat) (path : List (TypeId × Nat)) : frzT kp st0 st lv K (.p k ver i path) = if (st0 k).ver = ver then frzK kp st0 st lv K k else none := nr rfl
theorem frzK_i (k : Key) : frzK kp st0 st lv K k = if (st0 k).live = true ∧ keyIn lv K k = false ∧ refsIn.refsIns lv K (st0 k).vs = true then (match V.view.views st0 (st0 k).vs with | some ds => some (upd st k ⟨(st0 k).ver, (st0 k).e, bif kp then keepL (st0 k).vs ds else ds.map V.d, true⟩) | none => none) else none := nr rfl
theorem keyIn_i (a d : Nat) : keyIn lv K (a, d) = (a == lv && K.getD d false) := nr rfl
theorem rI_nil : refsIn.refsIns lv K [] = true := nr rfl
theorem rI_cons (v : V) (vs : List V) : refsIn.refsIns lv K (v :: vs) = (refsIn lv K v && refsIn.refsIns lv K vs) := nr rfl
theorem rI_row {α : Type} (f : α → D) : ∀ l : List α, refsIn.refsIns lv K (rowV f l) = true
  | [] => rfl
  | x :: r => by rw [rowV_cons, rI_cons, rI_row f r]; rfl
theorem rI_app : ∀ a b : List V, refsIn.refsIns lv K (a ++ b) = (refsIn.refsIns lv K a && refsIn.refsIns lv K b)
  | [], b => by simp [refsIn.refsIns]
  | x :: r, b => by rw [List.cons_append, rI_cons, rI_cons, rI_app r b, Bool.and_assoc]
theorem r_d (x : D) : refsIn lv K (.d x) = true := nr rfl
theorem r_nils (e : TypeId) : refsIn lv K (.nils e) = true := nr rfl
theorem r_nila (e : TypeId) : refsIn lv K (.nila e) = true := nr rfl
theorem r_agg (t : TypeId) (vs : List V) : refsIn lv K (.agg t vs) = refsIn.refsIns lv K vs := nr rfl
theorem r_rs (e : TypeId) (k : Key) (ver off len : Nat) (full : Bool) : refsIn lv K (.rs e k ver off len full) = keyIn lv K k := nr rfl
theorem r_gl {e : TypeId} {k : Key} {ver : Nat} {ws : List V} (h : keyIn lv K k = true) : refsIn lv K (gl e k ver ws) = true := by cases ws with
  | nil => rfl
  | cons v vs => exact h
theorem vw_row {α : Type} (f : α → D) : ∀ l : List α, V.view.views st (rowV f l) = some (l.map f)
  | [] => rfl
  | x :: r => by rw [rowV_cons]; simp only [V.view.views, V.view, vw_row f r, List.map_cons]
def appO {α : Type} : Option (List α) → Option (List α) → Option (List α)
  | some a, some b => some (a ++ b)
  | _, _ => none
theorem appO_s {α : Type} (a b : List α) : appO (some a) (some b) = some (a ++ b) := nr rfl
theorem vw_app : ∀ a b : List V, V.view.views st (a ++ b) = appO (V.view.views st a) (V.view.views st b)
  | [], b => by
    rw [List.nil_append]
    show _ = appO (some []) (V.view.views st b)
    cases V.view.views st b <;> rfl
  | x :: r, b => by
    rw [List.cons_append]
    simp only [V.view.views, vw_app r b]
    cases V.view st x <;> cases V.view.views st r <;> cases V.view.views st b <;> rfl
end
theorem frzT_gl {st : Store} {lv : Nat} {K : List Bool} {e : TypeId} {k : Key} {ver : Nat} {α : Type} {f : α → D} {l : List α} (h1 : (st k).ver = ver) (h2 : GlB (st k) e (rowV f l)) (h3 : keyIn lv K k = false) : frzT false st st lv K (gl e k ver (rowV f l)) = some st := by
  by_cases hl : l = []
  · subst hl; rfl
  · obtain ⟨g1, g2, g3⟩ := h2 (by simpa [rowV] using hl)
    rw [gl_pos (by simpa [rowV] using hl), frzT_rs, if_pos h1, frzK_i, if_pos ⟨g3, h3, by rw [g2, rI_row]⟩, g2, vw_row]
    simp only
    congr 1
    funext j
    unfold upd
    cases hq : keq j k
    · rfl
    · have : j = k := by unfold keq at hq; simp only [Bool.and_eq_true, beq_iff_eq] at hq; exact Prod.ext hq.1 hq.2
      subst this
      rw [map_row, ← g2]
      show (⟨(st j).ver, (st j).e, (st j).vs, true⟩ : Blk) = st j
      rw [← g3]
end Go.Ev
namespace Go.Ev
/-! ### reading data back, pointers to data -/
def cP {α : Type} (c : Cod α) : Cod α := ⟨fun x => .ptr (c.e x), fun x y h => by
  simp only [D.ptr.injEq] at h
  exact c.inj _ _ h⟩
structure Dec {α : Type} (c : Cod α) where
  f : D → Option α
  ok : ∀ x y, f x = some y → c.e y = x
structure DecL {α : Type} (c : CodL α) where
  f : List D → Option α
  ok : ∀ x y, f x = some y → c.e y = x
def dI (k : IntKind) : Dec (cI k) := ⟨fun x => match x with | .int k' n => if k = k' then some n else none | _ => none, fun x y h => by
  cases x <;> simp only [reduceCtorEq] at h
  split at h
  · rename_i hk; cases h; subst hk; rfl
  · cases h⟩
def dB : Dec cB := ⟨fun x => match x with | .bool b => some b | _ => none, fun x y h => by
  cases x <;> simp only [reduceCtorEq] at h
  cases h; rfl⟩
def dS : Dec cS := ⟨fun x => match x with | .str s => some s | _ => none, fun x y h => by
  cases x <;> simp only [reduceCtorEq] at h
  cases h; rfl⟩
def decMap {α : Type} (f : D → Option α) : List D → Option (List α)
  | [] => some []
  | x :: r => match f x, decMap f r with
    | some y, some l => some (y :: l)
    | _, _ => none
theorem decMap_ok {α : Type} {c : Cod α} (d : Dec c) : ∀ (xs : List D) (l : List α), decMap d.f xs = some l → l.map c.e = xs
  | [], l, h => by cases h; rfl
  | x :: r, l, h => by
    simp only [decMap] at h
    split at h
    · rename_i y q h1 h2
      cases h
      rw [List.map_cons, d.ok _ _ h1, decMap_ok d r q h2]
    · cases h
def dL {α : Type} (t : TypeId) {c : Cod α} (d : Dec c) : Dec (cL t c) := ⟨fun x => match x with | .sl t' xs => if t = t' then decMap d.f xs else none | _ => none, fun x y h => by
  cases x <;> simp only [reduceCtorEq] at h
  split at h
  · rename_i hk; subst hk; exact congrArg (D.sl t) (decMap_ok d _ _ h)
  · cases h⟩
def dA {α : Type} (t : TypeId) {c : CodL α} (d : DecL c) : Dec (cA t c) := ⟨fun x => match x with | .agg t' xs => if t = t' then d.f xs else none | _ => none, fun x y h => by
  cases x <;> simp only [reduceCtorEq] at h
  split at h
  · rename_i hk; subst hk; exact congrArg (D.agg t) (d.ok _ _ h)
  · cases h⟩
def dP {α : Type} {c : Cod α} (d : Dec c) : Dec (cP c) := ⟨fun x => match x with | .ptr x => d.f x | _ => none, fun x y h => by
  cases x <;> simp only [reduceCtorEq] at h
  exact congrArg D.ptr (d.ok _ _ h)⟩
def dNil : DecL cNil := ⟨fun x => match x with | [] => some () | _ => none, fun x y h => by
  cases x <;> simp only [reduceCtorEq] at h
  rfl⟩
def dCons {α β : Type} {c : Cod α} {r : CodL β} (d : Dec c) (e : DecL r) : DecL (cCons c r) := ⟨fun x => match x with
  | x :: xs => (match d.f x, e.f xs with | some y, some z => some (y, z) | _, _ => none)
  | [] => none, fun x y h => by
  cases x with
  | nil => cases h
  | cons x xs =>
    simp only at h
    split at h
    · rename_i y z h1 h2
      cases h
      show c.e _ :: r.e _ = _
      rw [d.ok _ _ h1, e.ok _ _ h2]
    · cases h⟩
def specK {α β : Type} {c : CodL α} (d : DecL c) (p : α → Option β) (res : β → List D) : Spec := ⟨fun xs => match d.f xs with
  | some x => (match p x with | some r => some (res r) | none => none)
  | none => none⟩
theorem specK_ok {P : Program} {Γ : Specs} {T : Table} {f : FuncId} {α β : Type} {c : CodL α} (d : DecL c) {p : α → Option β} {res : β → List D} (hm : P.follows .mixedOrders = true) (hΓ : ∀ g s, look Γ g = some s → SpecOk P g s) (hT : TableOk P (Γ.map (·.1)) T)
    (h : ∀ x r, p x = some r → ∃ L n, evTop P Γ T L n f (c.e x) = some (res r)) : SpecOk P f (specK d p res) := spec_of_ev hm hΓ hT fun xs rs hr => by
  simp only [specK] at hr
  split at hr
  · rename_i x hx
    split at hr
    · rename_i r hp
      cases hr
      rw [← d.ok _ _ hx]
      exact h x r hp
    · cases hr
  · cases hr
end Go.Ev
end
section
set_option linter.unusedVariables false
set_option linter.unusedSimpArgs false
namespace Go.Pl
open Go.Ev Go.IntKind
theorem w64 {x : Int} (h : -9223372036854775808 ≤ x ∧ x < 9223372036854775808) : i64.wrap x = x := IntWalk.i64_in _ (by omega)
theorem maxRow_v : maxRow = 140737488355328 := rfl
theorem idx_app {α : Type} (p : List α) (x : α) (s : List α) : idx (p ++ x :: s) (p.length : Int) = some x := by rw [idx_nat]; simp
theorem idx_at {α : Type} {l : List α} {i : Nat} (h : i < l.length) : idx l (i : Int) = some l[i] := by rw [idx_nat]; simp [h]
theorem idx_z {α : Type} (x : α) (s : List α) : idx (x :: s) 0 = some x := rfl
theorem ite_t {c : Prop} [Decidable c] {α : Type} {a b : α} (h : c) : (if c then a else b) = a := if_pos h
theorem ite_f {c : Prop} [Decidable c] {α : Type} {a b : α} (h : ¬ c) : (if c then a else b) = b := if_neg h
theorem cb_d {p : Prop} [Decidable p] {α : Type} (x y : Option α) : cb (decide p) x y = if p then x else y := by
  by_cases h : p
  · rw [decide_eq_true h, cb_t, if_pos h]
  · rw [decide_eq_false h, cb_f, if_neg h]
theorem cb_n {b : Bool} {α : Type} (x y : Option α) : cb (!b) x y = cb b y x := by cases b <;> rfl
theorem cb_v {b : Bool} {α : Type} (x y : Option α) : cb b x y = if b = true then x else y := by cases b <;> rfl
theorem min_v (a b : Int) : minI a b = min a b := by unfold minI; split <;> omega
theorem max_v (a b : Int) : maxI a b = max a b := by unfold maxI; split <;> omega
end Go.Pl
end
section
set_option linter.unusedVariables false
set_option linter.unusedSimpArgs false
set_option maxRecDepth 100000
namespace Go.Proofs.Ytnopgienncmcmaa.Ty
open Go.Ev
theorem tk3 : tk Try.prog 3 = .one := by kernel_rfl
theorem ik3 : intK Try.prog 3 = some .i64 := by kernel_rfl
theorem ek3 : ek Try.prog 3 = .int := by kernel_rfl
theorem zv3 : zeroV Try.prog 3 = some (.d (.int .i64 0)) := by kernel_rfl
theorem by3 : Try.prog.bytesOf 3 = 8 := by kernel_rfl
theorem so3 : szOf Try.prog 3 = 1 := by kernel_rfl
theorem tk4 : tk Try.prog 4 = .one := by kernel_rfl
theorem ub4 : Try.prog.underlying 4 = some .bool := by kernel_rfl
theorem ek4 : ek Try.prog 4 = .bool := by kernel_rfl
theorem zv4 : zeroV Try.prog 4 = some (.d (.bool false)) := by kernel_rfl
theorem by4 : Try.prog.bytesOf 4 = 1 := by kernel_rfl
theorem so4 : szOf Try.prog 4 = 1 := by kernel_rfl
theorem tk20 : tk Try.prog 20 = .one := by kernel_rfl
theorem by20 : Try.prog.bytesOf 20 = 16 := by kernel_rfl
theorem so20 : szOf Try.prog 20 = 1 := by kernel_rfl
theorem tk22 : tk Try.prog 22 = .sl 42 := by kernel_rfl
theorem zv22 : zeroV Try.prog 22 = some (.nils 42) := by kernel_rfl
theorem by22 : Try.prog.bytesOf 22 = 24 := by kernel_rfl
theorem so22 : szOf Try.prog 22 = 1 := by kernel_rfl
theorem tk23 : tk Try.prog 23 = .sl 50 := by kernel_rfl
theorem zv23 : zeroV Try.prog 23 = some (.nils 50) := by kernel_rfl
theorem by23 : Try.prog.bytesOf 23 = 24 := by kernel_rfl
theorem so23 : szOf Try.prog 23 = 1 := by kernel_rfl
theorem tk24 : tk Try.prog 24 = .one := by kernel_rfl
theorem ik24 : intK Try.prog 24 = some .i64 := by kernel_rfl
theorem ek24 : ek Try.prog 24 = .int := by kernel_rfl
theorem zv24 : zeroV Try.prog 24 = some (.d (.int .i64 0)) := by kernel_rfl
theorem by24 : Try.prog.bytesOf 24 = 8 := by kernel_rfl
theorem so24 : szOf Try.prog 24 = 1 := by kernel_rfl
theorem tk40 : tk Try.prog 40 = .sl 47 := by kernel_rfl
theorem zv40 : zeroV Try.prog 40 = some (.nils 47) := by kernel_rfl
theorem by40 : Try.prog.bytesOf 40 = 24 := by kernel_rfl
theorem so40 : szOf Try.prog 40 = 1 := by kernel_rfl
theorem tk42 : tk Try.prog 42 = .agg 3 false := by kernel_rfl
theorem ct42 : compTs Try.prog 42 = [3, 3, 40] := by kernel_rfl
theorem zv42 : zeroV Try.prog 42 = some (.agg 42 [.d (.int .i64 0), .d (.int .i64 0), .nils 47]) := by kernel_rfl
theorem by42 : Try.prog.bytesOf 42 = 40 := by kernel_rfl
theorem so42 : szOf Try.prog 42 = 3 := by kernel_rfl
theorem tk45 : tk Try.prog 45 = .one := by kernel_rfl
theorem ik45 : intK Try.prog 45 = some .i64 := by kernel_rfl
theorem ek45 : ek Try.prog 45 = .int := by kernel_rfl
theorem zv45 : zeroV Try.prog 45 = some (.d (.int .i64 0)) := by kernel_rfl
theorem by45 : Try.prog.bytesOf 45 = 8 := by kernel_rfl
theorem so45 : szOf Try.prog 45 = 1 := by kernel_rfl
theorem tk47 : tk Try.prog 47 = .agg 3 false := by kernel_rfl
theorem ct47 : compTs Try.prog 47 = [45, 45, 4] := by kernel_rfl
theorem ek47 : ek Try.prog 47 = .agg := by kernel_rfl
theorem zv47 : zeroV Try.prog 47 = some (.d (.agg 47 [.int .i64 0, .int .i64 0, .bool false])) := by kernel_rfl
theorem by47 : Try.prog.bytesOf 47 = 24 := by kernel_rfl
theorem so47 : szOf Try.prog 47 = 3 := by kernel_rfl
theorem tk50 : tk Try.prog 50 = .sl 3 := by kernel_rfl
theorem zv50 : zeroV Try.prog 50 = some (.nils 3) := by kernel_rfl
theorem by50 : Try.prog.bytesOf 50 = 24 := by kernel_rfl
theorem so50 : szOf Try.prog 50 = 1 := by kernel_rfl
theorem tk51 : tk Try.prog 51 = .one := by kernel_rfl
theorem zv51 : zeroV Try.prog 51 = some (.jk) := by kernel_rfl
theorem by51 : Try.prog.bytesOf 51 = 8 := by kernel_rfl
theorem so51 : szOf Try.prog 51 = 1 := by kernel_rfl
theorem tk53 : tk Try.prog 53 = .one := by kernel_rfl
theorem zv53 : zeroV Try.prog 53 = some (.jk) := by kernel_rfl
theorem by53 : Try.prog.bytesOf 53 = 8 := by kernel_rfl
theorem so53 : szOf Try.prog 53 = 1 := by kernel_rfl
theorem tk76 : tk Try.prog 76 = .one := by kernel_rfl
theorem zv76 : zeroV Try.prog 76 = some (.jk) := by kernel_rfl
theorem by76 : Try.prog.bytesOf 76 = 8 := by kernel_rfl
theorem so76 : szOf Try.prog 76 = 1 := by kernel_rfl
theorem tk85 : tk Try.prog 85 = .sl 45 := by kernel_rfl
theorem zv85 : zeroV Try.prog 85 = some (.nils 45) := by kernel_rfl
theorem by85 : Try.prog.bytesOf 85 = 24 := by kernel_rfl
theorem so85 : szOf Try.prog 85 = 1 := by kernel_rfl
theorem tk89 : tk Try.prog 89 = .one := by kernel_rfl
theorem zv89 : zeroV Try.prog 89 = some (.jk) := by kernel_rfl
theorem by89 : Try.prog.bytesOf 89 = 8 := by kernel_rfl
theorem so89 : szOf Try.prog 89 = 1 := by kernel_rfl
theorem tk108 : tk Try.prog 108 = .agg 2 true := by kernel_rfl
theorem ct108 : compTs Try.prog 108 = [45, 45] := by kernel_rfl
theorem zv108 : zeroV Try.prog 108 = some (.d (.agg 108 [.int .i64 0, .int .i64 0])) := by kernel_rfl
theorem by108 : Try.prog.bytesOf 108 = 16 := by kernel_rfl
theorem so108 : szOf Try.prog 108 = 2 := by kernel_rfl
def k85 : Cod (List Int) := cL 45 (cI .i64)
theorem k85_e (y : List Int) : k85.e y = .sl 45 (y.map (D.int .i64)) := nr rfl
def k108 : Cod (Int × Int × Unit) := cA 108 (cCons (cI .i64) (cCons (cI .i64) cNil))
theorem k108_e (y : Int × Int × Unit) : k108.e y = .agg 108 [.int .i64 y.1, .int .i64 y.2.1] := nr rfl
def k47 : Cod (Int × Int × Bool × Unit) := cA 47 (cCons (cI .i64) (cCons (cI .i64) (cCons cB cNil)))
theorem k47_e (y : Int × Int × Bool × Unit) : k47.e y = .agg 47 [.int .i64 y.1, .int .i64 y.2.1, .bool y.2.2.1] := nr rfl
def k50 : Cod (List Int) := cL 3 (cI .i64)
theorem k50_e (y : List Int) : k50.e y = .sl 3 (y.map (D.int .i64)) := nr rfl
def k23 : Cod (List (List Int)) := cL 50 k50
theorem k23_e (y : List (List Int)) : k23.e y = .sl 50 (y.map k50.e) := nr rfl
def k40 : Cod (List (Int × Int × Bool × Unit)) := cL 47 k47
theorem k40_e (y : List (Int × Int × Bool × Unit)) : k40.e y = .sl 47 (y.map k47.e) := nr rfl
def k42 : Cod (Int × Int × (List (Int × Int × Bool × Unit)) × Unit) := cA 42 (cCons (cI .i64) (cCons (cI .i64) (cCons k40 cNil)))
theorem k42_e (y : Int × Int × (List (Int × Int × Bool × Unit)) × Unit) : k42.e y = .agg 42 [.int .i64 y.1, .int .i64 y.2.1, .sl 47 (y.2.2.1.map k47.e)] := nr rfl
def k22 : Cod (List (Int × Int × (List (Int × Int × Bool × Unit)) × Unit)) := cL 42 k42
theorem k22_e (y : List (Int × Int × (List (Int × Int × Bool × Unit)) × Unit)) : k22.e y = .sl 42 (y.map k42.e) := nr rfl
theorem mixed : Try.prog.follows .mixedOrders = true := by kernel_rfl
end Go.Proofs.Ytnopgienncmcmaa.Ty
end
section
set_option linter.unusedVariables false
set_option linter.unusedSimpArgs false
set_option maxRecDepth 100000
namespace Go.Proofs.Ytnopgienncmcmaa.E
open Go.Ev
noncomputable def en42 : Entry := ⟨Try.f42, [(1000000, mb 13 0 [4])]⟩
theorem mk42_1000000 (vs : List V) : mask (maskOf en42.ms 1000000) vs = km 13 0 [4] vs := mask_mb _ _ _ _
end Go.Proofs.Ytnopgienncmcmaa.E
end
section
set_option linter.unusedVariables false
set_option linter.unusedSimpArgs false
set_option maxRecDepth 100000
namespace Go.Proofs.Ytnopgienncmcmaa.E
open Go.Ev
noncomputable def en28 : Entry := ⟨Try.f28, [(1000000, mb 8 0 [2])]⟩
theorem mk28_1000000 (vs : List V) : mask (maskOf en28.ms 1000000) vs = km 8 0 [2] vs := mask_mb _ _ _ _
end Go.Proofs.Ytnopgienncmcmaa.E
end
section
set_option linter.unusedVariables false
set_option linter.unusedSimpArgs false
set_option maxRecDepth 100000
namespace Go.Proofs.Ytnopgienncmcmaa.E
open Go.Ev
noncomputable def en43 : Entry := ⟨Try.f43, [(1000000, mb 2 0 [0])]⟩
theorem mk43_1000000 (vs : List V) : mask (maskOf en43.ms 1000000) vs = km 2 0 [0] vs := mask_mb _ _ _ _
end Go.Proofs.Ytnopgienncmcmaa.E
end
section
set_option linter.unusedVariables false
set_option linter.unusedSimpArgs false
set_option maxRecDepth 100000
namespace Go.Proofs.Ytnopgienncmcmaa.P
open Go.Ev Go.IntKind Go.Proofs.Ytnopgienncmcmaa Go.Proofs.Ytnopgienncmcmaa.Ty Go.Proofs.Ytnopgienncmcmaa.E
def p_bound_None_Quanta (L : Nat)  : Option (Int × Int × Bool) := some (0, 0, true)
attribute [local go_sem] Ev.putR_s Ev.putR_0 Ev.thenO_s Ev.thenO_0 Ev.seqR_n Ev.seqR_e Ev.seqR_r Ev.seqR_0 Ev.blkR_e Ev.blkR_n Ev.blkR_r Ev.blkR_0 Ev.normR_s Ev.normR_0 Ev.outR_r Ev.outR_n Ev.outR_0 Ev.retS_s Ev.retS_0 Ev.pureO_s Ev.pureO_0 Ev.topR_0 Ev.topR_t Ev.topR_t0 Ev.oneL_0 Ev.oneL_s Ev.topR_d Ev.topR_nils Ev.topR_agg Ev.topR_rs Ev.evOp_move Ev.evOp_assign Ev.evOp_pick Ev.evOp_alloc Ev.evOp_box Ev.evOp_build Ev.evOp_buildSlice Ev.evOp_load Ev.evOp_store Ev.evOp_makeMap Ev.evOp_lookup Ev.evOp_mapUpdate Ev.evOp_insert Ev.evOp_nilCheck Ev.evOp_binOp Ev.evOp_unOp Ev.evOp_convert Ev.evOp_makeFunc Ev.evOp_makeSlice Ev.evOp_slice Ev.evOp_fieldAddr Ev.evOp_field Ev.evOp_indexAddr Ev.evOp_index Ev.evOp_extract Ev.evOp_call Ev.evOp_append Ev.evOp_clear Ev.evOp_len Ev.evLen_d Ev.evLen_rs Ev.evLen_nils Ev.evLen_nila Ev.evLen_mp Ev.evOp_min Ev.evOp_max Ev.condR_b Ev.condR_t Ev.evOps_nil Ev.evOps_plain Ev.evOps_guard Ev.runG_eq Ev.skipG_eq Ev.condL_tt Ev.condL_ff Ev.condL_tf Ev.condL_ft Ev.condL_u Ev.condC_t Ev.condC_f Ev.evC_skip Ev.evC_ret Ev.evC_exit Ev.evC_label Ev.evC_region Ev.evC_draw Ev.evC_seq Ev.evC_cond Ev.evC_block Ev.evC_loop Ev.fin_d Ev.fin_nila Ev.fin_nils Ev.fin_agg_ Ev.fin_rs Ev.finS_s Ev.mapO_fin Ev.upd_upd Ev.argv_d Ev.argv_nila Ev.argv_nils Ev.argv_agg Ev.argv_rs Ev.argv_p Ev.fk_low Ev.appendTo_nils Ev.appendTo_nila Ev.appendTo_rs Ev.consV_d Ev.consV_agg Ev.consV_p Ev.consV_rs Ev.consV_nila Ev.consV_nils Ev.consV_fn Ev.consV_und Ev.consV_jk Ev.consV_grown Ev.topR_grown Ev.len_grown Ev.consV_mp Ev.sameK_i Ev.sameK_s Ev.mget_0 Ev.mget_hit Ev.mget_miss Ev.mput_0 Ev.mput_hit Ev.mput_miss Ev.apartAll Ev.apartL Ev.apartV Ev.freeAll Ev.sel Ev.keyOfV Ev.evLookup Ev.evPut Ev.hintOk Ev.keyOk Ev.consP Ev.lookV Ev.guardV Ev.dstAt Ev.evPure Ev.evStore Ev.evBin Ev.evBinO Ev.evNil Ev.isNilC Ev.evUn Ev.evConv Ev.evSlice Ev.optI Ev.foldI Ev.capsOk Ev.noTup Ev.nth Ev.setN Ev.killAt Ev.pad Ev.V.get Ev.V.put Ev.putD Ev.newBlk Ev.upd Ev.keq Ev.empty Ev.evCall Ev.V.args Ev.argP Ev.callOf Ev.evNilP Ev.isNilP Ev.look Ev.V.view.views Ev.V.view Ev.V.toD Ev.V.toD.V.toDs Ev.V.pure.pures Ev.V.pure Ev.D.flat.flats Ev.D.flat Ev.mkAgg Ev.allD Ev.aggParts Ev.setParts Ev.setElems Ev.getPath Ev.setPath Ev.subL Ev.eqD Ev.eqD.eqDs Ev.and2 Ev.strCut Ev.evalT Ev.constT Ev.evArgs Ev.mask Ev.maskOf Ev.tableOf Ev.compT Ev.resV Ev.retV Ev.mapO Ev.hT_nila Ev.eO_nila Ev.pL_nila Ev.evLen_gl Ev.r_nila Ev.frzO_n Ev.frzO_e Ev.frzO_r Ev.frzO_0 Ev.mb_z Ev.mb_0 Ev.mb_s Ev.frzL_t Ev.frzL_f Ev.frzL_0 Ev.frzT_nils Ev.frzT_rs Ev.frzT_p Ev.frzK_i Ev.keyIn_i Ev.rI_nil Ev.rI_cons Ev.rI_row Ev.rI_app Ev.r_d Ev.r_nils Ev.r_agg Ev.r_rs Ev.r_gl Ev.vw_row Ev.vw_app Ev.appO_s Ev.frzT_gl Ev.allD_gl Ev.killAt_i Ev.tkOne_i Ev.hT_agg Ev.hT_vagg Ev.hT_int Ev.hT_bool Ev.hT_str Ev.hT_sl Ev.hT_ptr Ev.hT_np Ev.hT_p Ev.hT_rs Ev.hT_mp Ev.hT_nils Ev.hT_fn Ev.hT_jk Ev.hT_gl Ev.eO_sl Ev.eO_nils Ev.eO_rs Ev.eT_sl Ev.eT_rs Ev.pL_str Ev.pL_sl Ev.pL_rs Ev.pL_nils Ev.pL_min Ev.pL_max Ev.len_glB Ev.noTup_gl Ev.rowV_len Ev.rowV_nil Ev.rowV_cons Ev.rowV_append Ev.rowV_set Ev.rowV_replicate Ev.nth_row Ev.row_take Ev.row_drop Ev.toDs_row Ev.fin_row Ev.map_row Ev.map_take_ Ev.map_drop_ Ev.Bk_i Ev.GlB_0 Ev.GlB_mk Ev.gl_nil Ev.gl_cons Ev.gl_snoc Ev.gl_setN Ev.appendTo_gl Ev.consV_gl Ev.elems_gl Ev.fin_gl Ev.view_gl Ev.argv_gl Ev.topR_gl Ev.sp_z Ev.sp_0 Ev.sp_s Ev.km_z Ev.km_0 Ev.km_s Ev.beq_toList Ev.nc0 Ev.bq_t Ev.bq_f Ev.bodyN Ev.le_maxRow Int.cast_ofNat_Int IntWalk.i64_in IntWalk.u64_in IntWalk.u8_in beq_self_eq_true Bool.true_beq Bool.false_beq Bool.and_true Bool.true_and Bool.false_and Bool.and_false Bool.and_self Bool.not_true Bool.not_false Bool.not_eq_true cond_true cond_false if_true if_false and_true true_and and_self decide_true decide_false Bool.or_true Bool.true_or Bool.or_false Bool.false_or List.isEmpty List.isEmpty_nil List.size_toArray List.map List.length_map List.length_cons List.length_nil Option.map Option.bind Option.getD Option.isSome List.replicate Bool.false_eq_true implies_true false_implies forall_const Array.toList Array.isEmpty List.append List.nil_append List.cons_append List.drop_zero List.take_length List.take_succ_cons List.take_zero List.take_nil List.getElem?_map List.getElem?_cons_zero List.getElem?_cons_succ List.getElem?_nil List.append_nil eq_self Int.toNat_natCast List.length_append Nat.zero_add Nat.add_zero List.length_replicate Nat.sub_zero Option.map_some Option.map_none Int.le_refl Nat.le_refl Int.natCast_nonneg List.map_append
attribute [local go_sem_proc] Nat.reduceAdd Nat.reduceSub Nat.reduceMul Nat.reduceEqDiff Nat.reduceBEq Nat.reduceLT Nat.reduceLeDiff Nat.reducePow Int.reduceToNat Int.reduceLT Int.reduceLE Int.reduceGT Int.reduceGE Int.reduceEq Int.reduceNeg Int.reduceAdd Int.reduceSub Int.reduceMul reduceCtorEq
attribute [local go_sem_proc ↓] reduceIte
noncomputable def G_bound_None_Quanta (L : Nat) : Specs := []
noncomputable def T_bound_None_Quanta : Table := tableOf [(43, en43)]
theorem Go_bound_None_Quanta (L : Nat) (hL : L ≤ 4611686018427387904) : ∀ g s, Ev.look (G_bound_None_Quanta L) g = some s → SpecOk Try.prog g s := specs_nil
theorem To_bound_None_Quanta (L : Nat) : TableOk Try.prog ((G_bound_None_Quanta L).map (·.1)) T_bound_None_Quanta := (table_cons Try.func43 (by kernel_rfl) (by kernel_rfl) table_nil)
attribute [local go_sem] Ty.tk4 Ty.ub4 Ty.ek4 Ty.zv4 Ty.by4 Ty.so4 Ty.tk45 Ty.ik45 Ty.ek45 Ty.zv45 Ty.by45 Ty.so45 Ty.tk47 Ty.ct47 Ty.ek47 Ty.zv47 Ty.by47 Ty.so47 Ty.k47_e E.mk43_1000000 loopN loops Try.f43
theorem e_bound_None_Quanta (L : Nat) (hL : L ≤ 4611686018427387904)  (res : Int × Int × Bool) (h : p_bound_None_Quanta L  = some res) : evTop Try.prog (G_bound_None_Quanta L) T_bound_None_Quanta L 1 43 [] = some [.agg 47 [.int .i64 res.1, .int .i64 res.2.1, .bool res.2.2]] := by
  revert h
  unfold p_bound_None_Quanta evTop
  simp only [List.map]
  rw [evF_s (fn := Try.f43) (msk := en43.ms) (hT := by rfl) (hb := by rfl)]
  rintro ⟨⟩
  simp only [go_sem, *]
noncomputable def s_bound_None_Quanta (L : Nat) : Ev.Spec := specP cNil (fun x => p_bound_None_Quanta L ) (fun r => [.agg 47 [.int .i64 r.1, .int .i64 r.2.1, .bool r.2.2]])
theorem s_bound_None_Quanta_run (L : Nat)  : (s_bound_None_Quanta L).run [] = (p_bound_None_Quanta L ).map fun r => [.agg 47 [.int .i64 r.1, .int .i64 r.2.1, .bool r.2.2]] := specP_run cNil (fun x => p_bound_None_Quanta L ) (fun r => [.agg 47 [.int .i64 r.1, .int .i64 r.2.1, .bool r.2.2]]) (())
theorem ok_bound_None_Quanta (L : Nat) (hL : L ≤ 4611686018427387904) : SpecOk Try.prog 43 (s_bound_None_Quanta L) := specP_ok mixed (Go_bound_None_Quanta L hL) (To_bound_None_Quanta L) fun x r h => ⟨L, 1, e_bound_None_Quanta L hL  r h⟩
end Go.Proofs.Ytnopgienncmcmaa.P
end
section
set_option linter.unusedVariables false
set_option linter.unusedSimpArgs false
set_option maxRecDepth 100000
namespace Go.Proofs.Ytnopgienncmcmaa.E
open Go.Ev
noncomputable def en49 : Entry := ⟨Try.f49, [(1000001, mb 37 0 []), (1000000, mb 37 0 [2])]⟩
theorem mk49_1000001 (vs : List V) : mask (maskOf en49.ms 1000001) vs = km 37 0 [] vs := mask_mb _ _ _ _
theorem mk49_1000000 (vs : List V) : mask (maskOf en49.ms 1000000) vs = km 37 0 [2] vs := mask_mb _ _ _ _
end Go.Proofs.Ytnopgienncmcmaa.E
end
section
set_option linter.unusedVariables false
set_option linter.unusedSimpArgs false
set_option maxRecDepth 100000
namespace Go.Proofs.Ytnopgienncmcmaa.P
open Go.Ev Go.IntKind Go.Proofs.Ytnopgienncmcmaa Go.Proofs.Ytnopgienncmcmaa.Ty Go.Proofs.Ytnopgienncmcmaa.E
def p_bound_Check_Quanta (L : Nat) (a0_0 : Int) (a0_1 : Int) (a0_2 : Bool) : Option Int := cb a0_2 (cb (decide (a0_0 = 0)) (cb (decide (a0_1 = 0)) (if (minI a0_0 a0_1) < (-1152921504606846976) then (some 4) else (if (maxI a0_0 a0_1) > 1152921504606846976 then (some 4) else (if a0_0 > a0_1 then (some 11) else (some 0)))) (some 3)) (some 3)) (if (minI a0_0 a0_1) < (-1152921504606846976) then (some 4) else (if (maxI a0_0 a0_1) > 1152921504606846976 then (some 4) else (if a0_0 > a0_1 then (some 11) else (some 0))))
attribute [local go_sem] Ev.putR_s Ev.putR_0 Ev.thenO_s Ev.thenO_0 Ev.seqR_n Ev.seqR_e Ev.seqR_r Ev.seqR_0 Ev.blkR_e Ev.blkR_n Ev.blkR_r Ev.blkR_0 Ev.normR_s Ev.normR_0 Ev.outR_r Ev.outR_n Ev.outR_0 Ev.retS_s Ev.retS_0 Ev.pureO_s Ev.pureO_0 Ev.topR_0 Ev.topR_t Ev.topR_t0 Ev.oneL_0 Ev.oneL_s Ev.topR_d Ev.topR_nils Ev.topR_agg Ev.topR_rs Ev.evOp_move Ev.evOp_assign Ev.evOp_pick Ev.evOp_alloc Ev.evOp_box Ev.evOp_build Ev.evOp_buildSlice Ev.evOp_load Ev.evOp_store Ev.evOp_makeMap Ev.evOp_lookup Ev.evOp_mapUpdate Ev.evOp_insert Ev.evOp_nilCheck Ev.evOp_binOp Ev.evOp_unOp Ev.evOp_convert Ev.evOp_makeFunc Ev.evOp_makeSlice Ev.evOp_slice Ev.evOp_fieldAddr Ev.evOp_field Ev.evOp_indexAddr Ev.evOp_index Ev.evOp_extract Ev.evOp_call Ev.evOp_append Ev.evOp_clear Ev.evOp_len Ev.evLen_d Ev.evLen_rs Ev.evLen_nils Ev.evLen_nila Ev.evLen_mp Ev.evOp_min Ev.evOp_max Ev.condR_b Ev.condR_t Ev.evOps_nil Ev.evOps_plain Ev.evOps_guard Ev.runG_eq Ev.skipG_eq Ev.condL_tt Ev.condL_ff Ev.condL_tf Ev.condL_ft Ev.condL_u Ev.condC_t Ev.condC_f Ev.evC_skip Ev.evC_ret Ev.evC_exit Ev.evC_label Ev.evC_region Ev.evC_draw Ev.evC_seq Ev.evC_cond Ev.evC_block Ev.evC_loop Ev.fin_d Ev.fin_nila Ev.fin_nils Ev.fin_agg_ Ev.fin_rs Ev.finS_s Ev.mapO_fin Ev.upd_upd Ev.argv_d Ev.argv_nila Ev.argv_nils Ev.argv_agg Ev.argv_rs Ev.argv_p Ev.fk_low Ev.appendTo_nils Ev.appendTo_nila Ev.appendTo_rs Ev.consV_d Ev.consV_agg Ev.consV_p Ev.consV_rs Ev.consV_nila Ev.consV_nils Ev.consV_fn Ev.consV_und Ev.consV_jk Ev.consV_grown Ev.topR_grown Ev.len_grown Ev.consV_mp Ev.sameK_i Ev.sameK_s Ev.mget_0 Ev.mget_hit Ev.mget_miss Ev.mput_0 Ev.mput_hit Ev.mput_miss Ev.apartAll Ev.apartL Ev.apartV Ev.freeAll Ev.sel Ev.keyOfV Ev.evLookup Ev.evPut Ev.hintOk Ev.keyOk Ev.consP Ev.lookV Ev.guardV Ev.dstAt Ev.evPure Ev.evStore Ev.evBin Ev.evBinO Ev.evNil Ev.isNilC Ev.evUn Ev.evConv Ev.evSlice Ev.optI Ev.foldI Ev.capsOk Ev.noTup Ev.nth Ev.setN Ev.killAt Ev.pad Ev.V.get Ev.V.put Ev.putD Ev.newBlk Ev.upd Ev.keq Ev.empty Ev.evCall Ev.V.args Ev.argP Ev.callOf Ev.evNilP Ev.isNilP Ev.look Ev.V.view.views Ev.V.view Ev.V.toD Ev.V.toD.V.toDs Ev.V.pure.pures Ev.V.pure Ev.D.flat.flats Ev.D.flat Ev.mkAgg Ev.allD Ev.aggParts Ev.setParts Ev.setElems Ev.getPath Ev.setPath Ev.subL Ev.eqD Ev.eqD.eqDs Ev.and2 Ev.strCut Ev.evalT Ev.constT Ev.evArgs Ev.mask Ev.maskOf Ev.tableOf Ev.compT Ev.resV Ev.retV Ev.mapO Ev.hT_nila Ev.eO_nila Ev.pL_nila Ev.evLen_gl Ev.r_nila Ev.frzO_n Ev.frzO_e Ev.frzO_r Ev.frzO_0 Ev.mb_z Ev.mb_0 Ev.mb_s Ev.frzL_t Ev.frzL_f Ev.frzL_0 Ev.frzT_nils Ev.frzT_rs Ev.frzT_p Ev.frzK_i Ev.keyIn_i Ev.rI_nil Ev.rI_cons Ev.rI_row Ev.rI_app Ev.r_d Ev.r_nils Ev.r_agg Ev.r_rs Ev.r_gl Ev.vw_row Ev.vw_app Ev.appO_s Ev.frzT_gl Ev.allD_gl Ev.killAt_i Ev.tkOne_i Ev.hT_agg Ev.hT_vagg Ev.hT_int Ev.hT_bool Ev.hT_str Ev.hT_sl Ev.hT_ptr Ev.hT_np Ev.hT_p Ev.hT_rs Ev.hT_mp Ev.hT_nils Ev.hT_fn Ev.hT_jk Ev.hT_gl Ev.eO_sl Ev.eO_nils Ev.eO_rs Ev.eT_sl Ev.eT_rs Ev.pL_str Ev.pL_sl Ev.pL_rs Ev.pL_nils Ev.pL_min Ev.pL_max Ev.len_glB Ev.noTup_gl Ev.rowV_len Ev.rowV_nil Ev.rowV_cons Ev.rowV_append Ev.rowV_set Ev.rowV_replicate Ev.nth_row Ev.row_take Ev.row_drop Ev.toDs_row Ev.fin_row Ev.map_row Ev.map_take_ Ev.map_drop_ Ev.Bk_i Ev.GlB_0 Ev.GlB_mk Ev.gl_nil Ev.gl_cons Ev.gl_snoc Ev.gl_setN Ev.appendTo_gl Ev.consV_gl Ev.elems_gl Ev.fin_gl Ev.view_gl Ev.argv_gl Ev.topR_gl Ev.sp_z Ev.sp_0 Ev.sp_s Ev.km_z Ev.km_0 Ev.km_s Ev.beq_toList Ev.nc0 Ev.bq_t Ev.bq_f Ev.bodyN Ev.le_maxRow Int.cast_ofNat_Int IntWalk.i64_in IntWalk.u64_in IntWalk.u8_in beq_self_eq_true Bool.true_beq Bool.false_beq Bool.and_true Bool.true_and Bool.false_and Bool.and_false Bool.and_self Bool.not_true Bool.not_false Bool.not_eq_true cond_true cond_false if_true if_false and_true true_and and_self decide_true decide_false Bool.or_true Bool.true_or Bool.or_false Bool.false_or List.isEmpty List.isEmpty_nil List.size_toArray List.map List.length_map List.length_cons List.length_nil Option.map Option.bind Option.getD Option.isSome List.replicate Bool.false_eq_true implies_true false_implies forall_const Array.toList Array.isEmpty List.append List.nil_append List.cons_append List.drop_zero List.take_length List.take_succ_cons List.take_zero List.take_nil List.getElem?_map List.getElem?_cons_zero List.getElem?_cons_succ List.getElem?_nil List.append_nil eq_self Int.toNat_natCast List.length_append Nat.zero_add Nat.add_zero List.length_replicate Nat.sub_zero Option.map_some Option.map_none Int.le_refl Nat.le_refl Int.natCast_nonneg List.map_append
attribute [local go_sem_proc] Nat.reduceAdd Nat.reduceSub Nat.reduceMul Nat.reduceEqDiff Nat.reduceBEq Nat.reduceLT Nat.reduceLeDiff Nat.reducePow Int.reduceToNat Int.reduceLT Int.reduceLE Int.reduceGT Int.reduceGE Int.reduceEq Int.reduceNeg Int.reduceAdd Int.reduceSub Int.reduceMul reduceCtorEq
attribute [local go_sem_proc ↓] reduceIte
noncomputable def G_bound_Check_Quanta (L : Nat) : Specs := []
noncomputable def T_bound_Check_Quanta : Table := tableOf [(49, en49)]
theorem Go_bound_Check_Quanta (L : Nat) (hL : L ≤ 4611686018427387904) : ∀ g s, Ev.look (G_bound_Check_Quanta L) g = some s → SpecOk Try.prog g s := specs_nil
theorem To_bound_Check_Quanta (L : Nat) : TableOk Try.prog ((G_bound_Check_Quanta L).map (·.1)) T_bound_Check_Quanta := (table_cons Try.func49 (by kernel_rfl) (by kernel_rfl) table_nil)
attribute [local go_sem] Ty.tk4 Ty.ub4 Ty.ek4 Ty.zv4 Ty.by4 Ty.so4 Ty.tk24 Ty.ik24 Ty.ek24 Ty.zv24 Ty.by24 Ty.so24 Ty.tk45 Ty.ik45 Ty.ek45 Ty.zv45 Ty.by45 Ty.so45 Ty.tk47 Ty.ct47 Ty.ek47 Ty.zv47 Ty.by47 Ty.so47 Ty.k47_e E.mk49_1000001 E.mk49_1000000 loopN loops Try.f49
theorem e_bound_Check_Quanta (L : Nat) (hL : L ≤ 4611686018427387904) (a0_0 : Int) (a0_1 : Int) (a0_2 : Bool) (res : Int) (h : p_bound_Check_Quanta L a0_0 a0_1 a0_2 = some res) : evTop Try.prog (G_bound_Check_Quanta L) T_bound_Check_Quanta L 1 49 [.agg 47 [.int .i64 a0_0, .int .i64 a0_1, .bool a0_2]] = some [.int .i64 res] := by
  revert h
  unfold p_bound_Check_Quanta evTop
  simp only [List.map]
  rw [evF_s (fn := Try.f49) (msk := en49.ms) (hT := by rfl) (hb := by rfl)]
  refine cb_i (fun c1 => ?_) (fun c1 => ?_)
  · refine cb_i (fun c2 => ?_) (fun c2 => ?_)
    · refine cb_i (fun c3 => ?_) (fun c3 => ?_)
      · refine ite_i (fun c4 => ?_) (fun c4 => ?_)
        · rintro ⟨⟩
          simp only [go_sem, *]
        · refine ite_i (fun c5 => ?_) (fun c5 => ?_)
          · rintro ⟨⟩
            simp only [go_sem, *]
          · refine ite_i (fun c6 => ?_) (fun c6 => ?_)
            · rintro ⟨⟩
              simp only [go_sem, *]
            · rintro ⟨⟩
              simp only [go_sem, *]
      · rintro ⟨⟩
        simp only [go_sem, *]
    · rintro ⟨⟩
      simp only [go_sem, *]
  · refine ite_i (fun c7 => ?_) (fun c7 => ?_)
    · rintro ⟨⟩
      simp only [go_sem, *]
    · refine ite_i (fun c8 => ?_) (fun c8 => ?_)
      · rintro ⟨⟩
        simp only [go_sem, *]
      · refine ite_i (fun c9 => ?_) (fun c9 => ?_)
        · rintro ⟨⟩
          simp only [go_sem, *]
        · rintro ⟨⟩
          simp only [go_sem, *]
noncomputable def s_bound_Check_Quanta (L : Nat) : Ev.Spec := specP (cCons k47 cNil) (fun x => p_bound_Check_Quanta L x.1.1 x.1.2.1 x.1.2.2.1) (fun r => [.int .i64 r])
theorem s_bound_Check_Quanta_run (L : Nat) (a0_0 : Int) (a0_1 : Int) (a0_2 : Bool) : (s_bound_Check_Quanta L).run [.agg 47 [.int .i64 a0_0, .int .i64 a0_1, .bool a0_2]] = (p_bound_Check_Quanta L a0_0 a0_1 a0_2).map fun r => [.int .i64 r] := specP_run (cCons k47 cNil) (fun x => p_bound_Check_Quanta L x.1.1 x.1.2.1 x.1.2.2.1) (fun r => [.int .i64 r]) ((a0_0, a0_1, a0_2, ()), ())
theorem ok_bound_Check_Quanta (L : Nat) (hL : L ≤ 4611686018427387904) : SpecOk Try.prog 49 (s_bound_Check_Quanta L) := specP_ok mixed (Go_bound_Check_Quanta L hL) (To_bound_Check_Quanta L) fun x r h => ⟨L, 1, e_bound_Check_Quanta L hL x.1.1 x.1.2.1 x.1.2.2.1 r h⟩
end Go.Proofs.Ytnopgienncmcmaa.P
end
section
set_option linter.unusedVariables false
set_option linter.unusedSimpArgs false
set_option maxRecDepth 100000
namespace Go.Proofs.Ytnopgienncmcmaa.P
open Go.Ev Go.IntKind Go.Proofs.Ytnopgienncmcmaa Go.Proofs.Ytnopgienncmcmaa.Ty Go.Proofs.Ytnopgienncmcmaa.E
def p_bound_Norm_Quanta (L : Nat) (a0_0 : Int) (a0_1 : Int) (a0_2 : Bool) : Option (Int × Int × Bool) := bnd (p_bound_Check_Quanta L a0_0 a0_1 a0_2) fun r1 => cb (decide (r1 = 0)) (some (a0_0, a0_1, a0_2)) (bnd (p_bound_None_Quanta L) fun r2 => some (r2.1, r2.2.1, r2.2.2))
attribute [local go_sem] Ev.putR_s Ev.putR_0 Ev.thenO_s Ev.thenO_0 Ev.seqR_n Ev.seqR_e Ev.seqR_r Ev.seqR_0 Ev.blkR_e Ev.blkR_n Ev.blkR_r Ev.blkR_0 Ev.normR_s Ev.normR_0 Ev.outR_r Ev.outR_n Ev.outR_0 Ev.retS_s Ev.retS_0 Ev.pureO_s Ev.pureO_0 Ev.topR_0 Ev.topR_t Ev.topR_t0 Ev.oneL_0 Ev.oneL_s Ev.topR_d Ev.topR_nils Ev.topR_agg Ev.topR_rs Ev.evOp_move Ev.evOp_assign Ev.evOp_pick Ev.evOp_alloc Ev.evOp_box Ev.evOp_build Ev.evOp_buildSlice Ev.evOp_load Ev.evOp_store Ev.evOp_makeMap Ev.evOp_lookup Ev.evOp_mapUpdate Ev.evOp_insert Ev.evOp_nilCheck Ev.evOp_binOp Ev.evOp_unOp Ev.evOp_convert Ev.evOp_makeFunc Ev.evOp_makeSlice Ev.evOp_slice Ev.evOp_fieldAddr Ev.evOp_field Ev.evOp_indexAddr Ev.evOp_index Ev.evOp_extract Ev.evOp_call Ev.evOp_append Ev.evOp_clear Ev.evOp_len Ev.evLen_d Ev.evLen_rs Ev.evLen_nils Ev.evLen_nila Ev.evLen_mp Ev.evOp_min Ev.evOp_max Ev.condR_b Ev.condR_t Ev.evOps_nil Ev.evOps_plain Ev.evOps_guard Ev.runG_eq Ev.skipG_eq Ev.condL_tt Ev.condL_ff Ev.condL_tf Ev.condL_ft Ev.condL_u Ev.condC_t Ev.condC_f Ev.evC_skip Ev.evC_ret Ev.evC_exit Ev.evC_label Ev.evC_region Ev.evC_draw Ev.evC_seq Ev.evC_cond Ev.evC_block Ev.evC_loop Ev.fin_d Ev.fin_nila Ev.fin_nils Ev.fin_agg_ Ev.fin_rs Ev.finS_s Ev.mapO_fin Ev.upd_upd Ev.argv_d Ev.argv_nila Ev.argv_nils Ev.argv_agg Ev.argv_rs Ev.argv_p Ev.fk_low Ev.appendTo_nils Ev.appendTo_nila Ev.appendTo_rs Ev.consV_d Ev.consV_agg Ev.consV_p Ev.consV_rs Ev.consV_nila Ev.consV_nils Ev.consV_fn Ev.consV_und Ev.consV_jk Ev.consV_grown Ev.topR_grown Ev.len_grown Ev.consV_mp Ev.sameK_i Ev.sameK_s Ev.mget_0 Ev.mget_hit Ev.mget_miss Ev.mput_0 Ev.mput_hit Ev.mput_miss Ev.apartAll Ev.apartL Ev.apartV Ev.freeAll Ev.sel Ev.keyOfV Ev.evLookup Ev.evPut Ev.hintOk Ev.keyOk Ev.consP Ev.lookV Ev.guardV Ev.dstAt Ev.evPure Ev.evStore Ev.evBin Ev.evBinO Ev.evNil Ev.isNilC Ev.evUn Ev.evConv Ev.evSlice Ev.optI Ev.foldI Ev.capsOk Ev.noTup Ev.nth Ev.setN Ev.killAt Ev.pad Ev.V.get Ev.V.put Ev.putD Ev.newBlk Ev.upd Ev.keq Ev.empty Ev.evCall Ev.V.args Ev.argP Ev.callOf Ev.evNilP Ev.isNilP Ev.look Ev.V.view.views Ev.V.view Ev.V.toD Ev.V.toD.V.toDs Ev.V.pure.pures Ev.V.pure Ev.D.flat.flats Ev.D.flat Ev.mkAgg Ev.allD Ev.aggParts Ev.setParts Ev.setElems Ev.getPath Ev.setPath Ev.subL Ev.eqD Ev.eqD.eqDs Ev.and2 Ev.strCut Ev.evalT Ev.constT Ev.evArgs Ev.mask Ev.maskOf Ev.tableOf Ev.compT Ev.resV Ev.retV Ev.mapO Ev.hT_nila Ev.eO_nila Ev.pL_nila Ev.evLen_gl Ev.r_nila Ev.frzO_n Ev.frzO_e Ev.frzO_r Ev.frzO_0 Ev.mb_z Ev.mb_0 Ev.mb_s Ev.frzL_t Ev.frzL_f Ev.frzL_0 Ev.frzT_nils Ev.frzT_rs Ev.frzT_p Ev.frzK_i Ev.keyIn_i Ev.rI_nil Ev.rI_cons Ev.rI_row Ev.rI_app Ev.r_d Ev.r_nils Ev.r_agg Ev.r_rs Ev.r_gl Ev.vw_row Ev.vw_app Ev.appO_s Ev.frzT_gl Ev.allD_gl Ev.killAt_i Ev.tkOne_i Ev.hT_agg Ev.hT_vagg Ev.hT_int Ev.hT_bool Ev.hT_str Ev.hT_sl Ev.hT_ptr Ev.hT_np Ev.hT_p Ev.hT_rs Ev.hT_mp Ev.hT_nils Ev.hT_fn Ev.hT_jk Ev.hT_gl Ev.eO_sl Ev.eO_nils Ev.eO_rs Ev.eT_sl Ev.eT_rs Ev.pL_str Ev.pL_sl Ev.pL_rs Ev.pL_nils Ev.pL_min Ev.pL_max Ev.len_glB Ev.noTup_gl Ev.rowV_len Ev.rowV_nil Ev.rowV_cons Ev.rowV_append Ev.rowV_set Ev.rowV_replicate Ev.nth_row Ev.row_take Ev.row_drop Ev.toDs_row Ev.fin_row Ev.map_row Ev.map_take_ Ev.map_drop_ Ev.Bk_i Ev.GlB_0 Ev.GlB_mk Ev.gl_nil Ev.gl_cons Ev.gl_snoc Ev.gl_setN Ev.appendTo_gl Ev.consV_gl Ev.elems_gl Ev.fin_gl Ev.view_gl Ev.argv_gl Ev.topR_gl Ev.sp_z Ev.sp_0 Ev.sp_s Ev.km_z Ev.km_0 Ev.km_s Ev.beq_toList Ev.nc0 Ev.bq_t Ev.bq_f Ev.bodyN Ev.le_maxRow Int.cast_ofNat_Int IntWalk.i64_in IntWalk.u64_in IntWalk.u8_in beq_self_eq_true Bool.true_beq Bool.false_beq Bool.and_true Bool.true_and Bool.false_and Bool.and_false Bool.and_self Bool.not_true Bool.not_false Bool.not_eq_true cond_true cond_false if_true if_false and_true true_and and_self decide_true decide_false Bool.or_true Bool.true_or Bool.or_false Bool.false_or List.isEmpty List.isEmpty_nil List.size_toArray List.map List.length_map List.length_cons List.length_nil Option.map Option.bind Option.getD Option.isSome List.replicate Bool.false_eq_true implies_true false_implies forall_const Array.toList Array.isEmpty List.append List.nil_append List.cons_append List.drop_zero List.take_length List.take_succ_cons List.take_zero List.take_nil List.getElem?_map List.getElem?_cons_zero List.getElem?_cons_succ List.getElem?_nil List.append_nil eq_self Int.toNat_natCast List.length_append Nat.zero_add Nat.add_zero List.length_replicate Nat.sub_zero Option.map_some Option.map_none Int.le_refl Nat.le_refl Int.natCast_nonneg List.map_append
attribute [local go_sem_proc] Nat.reduceAdd Nat.reduceSub Nat.reduceMul Nat.reduceEqDiff Nat.reduceBEq Nat.reduceLT Nat.reduceLeDiff Nat.reducePow Int.reduceToNat Int.reduceLT Int.reduceLE Int.reduceGT Int.reduceGE Int.reduceEq Int.reduceNeg Int.reduceAdd Int.reduceSub Int.reduceMul reduceCtorEq
attribute [local go_sem_proc ↓] reduceIte
noncomputable def G_bound_Norm_Quanta (L : Nat) : Specs := [(43, s_bound_None_Quanta L), (49, s_bound_Check_Quanta L)]
noncomputable def T_bound_Norm_Quanta : Table := tableOf [(28, en28)]
theorem Go_bound_Norm_Quanta (L : Nat) (hL : L ≤ 4611686018427387904) : ∀ g s, Ev.look (G_bound_Norm_Quanta L) g = some s → SpecOk Try.prog g s := (specs_cons (ok_bound_None_Quanta L hL) (specs_cons (ok_bound_Check_Quanta L hL) specs_nil))
theorem To_bound_Norm_Quanta (L : Nat) : TableOk Try.prog ((G_bound_Norm_Quanta L).map (·.1)) T_bound_Norm_Quanta := (table_cons Try.func28 (by kernel_rfl) (by kernel_rfl) table_nil)
theorem lk_bound_Norm_Quanta_43 (L : Nat) : Ev.look (G_bound_Norm_Quanta L) 43 = some (s_bound_None_Quanta L) := nr rfl
theorem lk_bound_Norm_Quanta_49 (L : Nat) : Ev.look (G_bound_Norm_Quanta L) 49 = some (s_bound_Check_Quanta L) := nr rfl
attribute [local go_sem] Ty.tk4 Ty.ub4 Ty.ek4 Ty.zv4 Ty.by4 Ty.so4 Ty.tk24 Ty.ik24 Ty.ek24 Ty.zv24 Ty.by24 Ty.so24 Ty.tk45 Ty.ik45 Ty.ek45 Ty.zv45 Ty.by45 Ty.so45 Ty.tk47 Ty.ct47 Ty.ek47 Ty.zv47 Ty.by47 Ty.so47 Ty.k47_e E.mk28_1000000 lk_bound_Norm_Quanta_43 lk_bound_Norm_Quanta_49 s_bound_None_Quanta_run s_bound_Check_Quanta_run loopN loops Try.f28
theorem e_bound_Norm_Quanta (L : Nat) (hL : L ≤ 4611686018427387904) (a0_0 : Int) (a0_1 : Int) (a0_2 : Bool) (res : Int × Int × Bool) (h : p_bound_Norm_Quanta L a0_0 a0_1 a0_2 = some res) : evTop Try.prog (G_bound_Norm_Quanta L) T_bound_Norm_Quanta L 1 28 [.agg 47 [.int .i64 a0_0, .int .i64 a0_1, .bool a0_2]] = some [.agg 47 [.int .i64 res.1, .int .i64 res.2.1, .bool res.2.2]] := by
  revert h
  unfold p_bound_Norm_Quanta evTop
  simp only [List.map]
  rw [evF_s (fn := Try.f28) (msk := en28.ms) (hT := by rfl) (hb := by rfl)]
  refine bnd_i fun r1 c1 => ?_
  refine cb_i (fun c2 => ?_) (fun c2 => ?_)
  · rintro ⟨⟩
    simp only [go_sem, *]
  · refine bnd_i fun r2 c3 => ?_
    rintro ⟨⟩
    simp only [go_sem, *]
noncomputable def s_bound_Norm_Quanta (L : Nat) : Ev.Spec := specP (cCons k47 cNil) (fun x => p_bound_Norm_Quanta L x.1.1 x.1.2.1 x.1.2.2.1) (fun r => [.agg 47 [.int .i64 r.1, .int .i64 r.2.1, .bool r.2.2]])
theorem s_bound_Norm_Quanta_run (L : Nat) (a0_0 : Int) (a0_1 : Int) (a0_2 : Bool) : (s_bound_Norm_Quanta L).run [.agg 47 [.int .i64 a0_0, .int .i64 a0_1, .bool a0_2]] = (p_bound_Norm_Quanta L a0_0 a0_1 a0_2).map fun r => [.agg 47 [.int .i64 r.1, .int .i64 r.2.1, .bool r.2.2]] := specP_run (cCons k47 cNil) (fun x => p_bound_Norm_Quanta L x.1.1 x.1.2.1 x.1.2.2.1) (fun r => [.agg 47 [.int .i64 r.1, .int .i64 r.2.1, .bool r.2.2]]) ((a0_0, a0_1, a0_2, ()), ())
theorem ok_bound_Norm_Quanta (L : Nat) (hL : L ≤ 4611686018427387904) : SpecOk Try.prog 28 (s_bound_Norm_Quanta L) := specP_ok mixed (Go_bound_Norm_Quanta L hL) (To_bound_Norm_Quanta L) fun x r h => ⟨L, 1, e_bound_Norm_Quanta L hL x.1.1 x.1.2.1 x.1.2.2.1 r h⟩
end Go.Proofs.Ytnopgienncmcmaa.P
end
section
set_option linter.unusedVariables false
set_option linter.unusedSimpArgs false
set_option maxRecDepth 100000
namespace Go.Proofs.Ytnopgienncmcmaa.P
open Go.Ev Go.IntKind Go.Proofs.Ytnopgienncmcmaa Go.Proofs.Ytnopgienncmcmaa.Ty Go.Proofs.Ytnopgienncmcmaa.E
def p_bound_vague_Quanta (L : Nat) (a0_0 : Int) (a0_1 : Int) (a0_2 : Bool) (a1_0 : Int) (a1_1 : Int) (a1_2 : Bool) : Option Bool := bnd (p_bound_Norm_Quanta L a0_0 a0_1 a0_2) fun r1 => cb r1.2.2 (some true) (bnd (p_bound_Norm_Quanta L a1_0 a1_1 a1_2) fun r2 => some r2.2.2)
attribute [local go_sem] Ev.putR_s Ev.putR_0 Ev.thenO_s Ev.thenO_0 Ev.seqR_n Ev.seqR_e Ev.seqR_r Ev.seqR_0 Ev.blkR_e Ev.blkR_n Ev.blkR_r Ev.blkR_0 Ev.normR_s Ev.normR_0 Ev.outR_r Ev.outR_n Ev.outR_0 Ev.retS_s Ev.retS_0 Ev.pureO_s Ev.pureO_0 Ev.topR_0 Ev.topR_t Ev.topR_t0 Ev.oneL_0 Ev.oneL_s Ev.topR_d Ev.topR_nils Ev.topR_agg Ev.topR_rs Ev.evOp_move Ev.evOp_assign Ev.evOp_pick Ev.evOp_alloc Ev.evOp_box Ev.evOp_build Ev.evOp_buildSlice Ev.evOp_load Ev.evOp_store Ev.evOp_makeMap Ev.evOp_lookup Ev.evOp_mapUpdate Ev.evOp_insert Ev.evOp_nilCheck Ev.evOp_binOp Ev.evOp_unOp Ev.evOp_convert Ev.evOp_makeFunc Ev.evOp_makeSlice Ev.evOp_slice Ev.evOp_fieldAddr Ev.evOp_field Ev.evOp_indexAddr Ev.evOp_index Ev.evOp_extract Ev.evOp_call Ev.evOp_append Ev.evOp_clear Ev.evOp_len Ev.evLen_d Ev.evLen_rs Ev.evLen_nils Ev.evLen_nila Ev.evLen_mp Ev.evOp_min Ev.evOp_max Ev.condR_b Ev.condR_t Ev.evOps_nil Ev.evOps_plain Ev.evOps_guard Ev.runG_eq Ev.skipG_eq Ev.condL_tt Ev.condL_ff Ev.condL_tf Ev.condL_ft Ev.condL_u Ev.condC_t Ev.condC_f Ev.evC_skip Ev.evC_ret Ev.evC_exit Ev.evC_label Ev.evC_region Ev.evC_draw Ev.evC_seq Ev.evC_cond Ev.evC_block Ev.evC_loop Ev.fin_d Ev.fin_nila Ev.fin_nils Ev.fin_agg_ Ev.fin_rs Ev.finS_s Ev.mapO_fin Ev.upd_upd Ev.argv_d Ev.argv_nila Ev.argv_nils Ev.argv_agg Ev.argv_rs Ev.argv_p Ev.fk_low Ev.appendTo_nils Ev.appendTo_nila Ev.appendTo_rs Ev.consV_d Ev.consV_agg Ev.consV_p Ev.consV_rs Ev.consV_nila Ev.consV_nils Ev.consV_fn Ev.consV_und Ev.consV_jk Ev.consV_grown Ev.topR_grown Ev.len_grown Ev.consV_mp Ev.sameK_i Ev.sameK_s Ev.mget_0 Ev.mget_hit Ev.mget_miss Ev.mput_0 Ev.mput_hit Ev.mput_miss Ev.apartAll Ev.apartL Ev.apartV Ev.freeAll Ev.sel Ev.keyOfV Ev.evLookup Ev.evPut Ev.hintOk Ev.keyOk Ev.consP Ev.lookV Ev.guardV Ev.dstAt Ev.evPure Ev.evStore Ev.evBin Ev.evBinO Ev.evNil Ev.isNilC Ev.evUn Ev.evConv Ev.evSlice Ev.optI Ev.foldI Ev.capsOk Ev.noTup Ev.nth Ev.setN Ev.killAt Ev.pad Ev.V.get Ev.V.put Ev.putD Ev.newBlk Ev.upd Ev.keq Ev.empty Ev.evCall Ev.V.args Ev.argP Ev.callOf Ev.evNilP Ev.isNilP Ev.look Ev.V.view.views Ev.V.view Ev.V.toD Ev.V.toD.V.toDs Ev.V.pure.pures Ev.V.pure Ev.D.flat.flats Ev.D.flat Ev.mkAgg Ev.allD Ev.aggParts Ev.setParts Ev.setElems Ev.getPath Ev.setPath Ev.subL Ev.eqD Ev.eqD.eqDs Ev.and2 Ev.strCut Ev.evalT Ev.constT Ev.evArgs Ev.mask Ev.maskOf Ev.tableOf Ev.compT Ev.resV Ev.retV Ev.mapO Ev.hT_nila Ev.eO_nila Ev.pL_nila Ev.evLen_gl Ev.r_nila Ev.frzO_n Ev.frzO_e Ev.frzO_r Ev.frzO_0 Ev.mb_z Ev.mb_0 Ev.mb_s Ev.frzL_t Ev.frzL_f Ev.frzL_0 Ev.frzT_nils Ev.frzT_rs Ev.frzT_p Ev.frzK_i Ev.keyIn_i Ev.rI_nil Ev.rI_cons Ev.rI_row Ev.rI_app Ev.r_d Ev.r_nils Ev.r_agg Ev.r_rs Ev.r_gl Ev.vw_row Ev.vw_app Ev.appO_s Ev.frzT_gl Ev.allD_gl Ev.killAt_i Ev.tkOne_i Ev.hT_agg Ev.hT_vagg Ev.hT_int Ev.hT_bool Ev.hT_str Ev.hT_sl Ev.hT_ptr Ev.hT_np Ev.hT_p Ev.hT_rs Ev.hT_mp Ev.hT_nils Ev.hT_fn Ev.hT_jk Ev.hT_gl Ev.eO_sl Ev.eO_nils Ev.eO_rs Ev.eT_sl Ev.eT_rs Ev.pL_str Ev.pL_sl Ev.pL_rs Ev.pL_nils Ev.pL_min Ev.pL_max Ev.len_glB Ev.noTup_gl Ev.rowV_len Ev.rowV_nil Ev.rowV_cons Ev.rowV_append Ev.rowV_set Ev.rowV_replicate Ev.nth_row Ev.row_take Ev.row_drop Ev.toDs_row Ev.fin_row Ev.map_row Ev.map_take_ Ev.map_drop_ Ev.Bk_i Ev.GlB_0 Ev.GlB_mk Ev.gl_nil Ev.gl_cons Ev.gl_snoc Ev.gl_setN Ev.appendTo_gl Ev.consV_gl Ev.elems_gl Ev.fin_gl Ev.view_gl Ev.argv_gl Ev.topR_gl Ev.sp_z Ev.sp_0 Ev.sp_s Ev.km_z Ev.km_0 Ev.km_s Ev.beq_toList Ev.nc0 Ev.bq_t Ev.bq_f Ev.bodyN Ev.le_maxRow Int.cast_ofNat_Int IntWalk.i64_in IntWalk.u64_in IntWalk.u8_in beq_self_eq_true Bool.true_beq Bool.false_beq Bool.and_true Bool.true_and Bool.false_and Bool.and_false Bool.and_self Bool.not_true Bool.not_false Bool.not_eq_true cond_true cond_false if_true if_false and_true true_and and_self decide_true decide_false Bool.or_true Bool.true_or Bool.or_false Bool.false_or List.isEmpty List.isEmpty_nil List.size_toArray List.map List.length_map List.length_cons List.length_nil Option.map Option.bind Option.getD Option.isSome List.replicate Bool.false_eq_true implies_true false_implies forall_const Array.toList Array.isEmpty List.append List.nil_append List.cons_append List.drop_zero List.take_length List.take_succ_cons List.take_zero List.take_nil List.getElem?_map List.getElem?_cons_zero List.getElem?_cons_succ List.getElem?_nil List.append_nil eq_self Int.toNat_natCast List.length_append Nat.zero_add Nat.add_zero List.length_replicate Nat.sub_zero Option.map_some Option.map_none Int.le_refl Nat.le_refl Int.natCast_nonneg List.map_append
attribute [local go_sem_proc] Nat.reduceAdd Nat.reduceSub Nat.reduceMul Nat.reduceEqDiff Nat.reduceBEq Nat.reduceLT Nat.reduceLeDiff Nat.reducePow Int.reduceToNat Int.reduceLT Int.reduceLE Int.reduceGT Int.reduceGE Int.reduceEq Int.reduceNeg Int.reduceAdd Int.reduceSub Int.reduceMul reduceCtorEq
attribute [local go_sem_proc ↓] reduceIte
noncomputable def G_bound_vague_Quanta (L : Nat) : Specs := [(28, s_bound_Norm_Quanta L)]
noncomputable def T_bound_vague_Quanta : Table := tableOf [(42, en42)]
theorem Go_bound_vague_Quanta (L : Nat) (hL : L ≤ 4611686018427387904) : ∀ g s, Ev.look (G_bound_vague_Quanta L) g = some s → SpecOk Try.prog g s := (specs_cons (ok_bound_Norm_Quanta L hL) specs_nil)
theorem To_bound_vague_Quanta (L : Nat) : TableOk Try.prog ((G_bound_vague_Quanta L).map (·.1)) T_bound_vague_Quanta := (table_cons Try.func42 (by kernel_rfl) (by kernel_rfl) table_nil)
theorem lk_bound_vague_Quanta_28 (L : Nat) : Ev.look (G_bound_vague_Quanta L) 28 = some (s_bound_Norm_Quanta L) := nr rfl
attribute [local go_sem] Ty.tk4 Ty.ub4 Ty.ek4 Ty.zv4 Ty.by4 Ty.so4 Ty.tk45 Ty.ik45 Ty.ek45 Ty.zv45 Ty.by45 Ty.so45 Ty.tk47 Ty.ct47 Ty.ek47 Ty.zv47 Ty.by47 Ty.so47 Ty.k47_e E.mk42_1000000 lk_bound_vague_Quanta_28 s_bound_Norm_Quanta_run loopN loops Try.f42
theorem e_bound_vague_Quanta (L : Nat) (hL : L ≤ 4611686018427387904) (a0_0 : Int) (a0_1 : Int) (a0_2 : Bool) (a1_0 : Int) (a1_1 : Int) (a1_2 : Bool) (res : Bool) (h : p_bound_vague_Quanta L a0_0 a0_1 a0_2 a1_0 a1_1 a1_2 = some res) : evTop Try.prog (G_bound_vague_Quanta L) T_bound_vague_Quanta L 1 42 [.agg 47 [.int .i64 a0_0, .int .i64 a0_1, .bool a0_2], .agg 47 [.int .i64 a1_0, .int .i64 a1_1, .bool a1_2]] = some [.bool res] := by
  revert h
  unfold p_bound_vague_Quanta evTop
  simp only [List.map]
  rw [evF_s (fn := Try.f42) (msk := en42.ms) (hT := by rfl) (hb := by rfl)]
  refine bnd_i fun r1 c1 => ?_
  refine cb_i (fun c2 => ?_) (fun c2 => ?_)
  · rintro ⟨⟩
    simp only [go_sem, *]
  · refine bnd_i fun r2 c3 => ?_
    rintro ⟨⟩
    simp only [go_sem, *]
noncomputable def s_bound_vague_Quanta (L : Nat) : Ev.Spec := specP (cCons k47 (cCons k47 cNil)) (fun x => p_bound_vague_Quanta L x.1.1 x.1.2.1 x.1.2.2.1 x.2.1.1 x.2.1.2.1 x.2.1.2.2.1) (fun r => [.bool r])
theorem s_bound_vague_Quanta_run (L : Nat) (a0_0 : Int) (a0_1 : Int) (a0_2 : Bool) (a1_0 : Int) (a1_1 : Int) (a1_2 : Bool) : (s_bound_vague_Quanta L).run [.agg 47 [.int .i64 a0_0, .int .i64 a0_1, .bool a0_2], .agg 47 [.int .i64 a1_0, .int .i64 a1_1, .bool a1_2]] = (p_bound_vague_Quanta L a0_0 a0_1 a0_2 a1_0 a1_1 a1_2).map fun r => [.bool r] := specP_run (cCons k47 (cCons k47 cNil)) (fun x => p_bound_vague_Quanta L x.1.1 x.1.2.1 x.1.2.2.1 x.2.1.1 x.2.1.2.1 x.2.1.2.2.1) (fun r => [.bool r]) ((a0_0, a0_1, a0_2, ()), (a1_0, a1_1, a1_2, ()), ())
theorem ok_bound_vague_Quanta (L : Nat) (hL : L ≤ 4611686018427387904) : SpecOk Try.prog 42 (s_bound_vague_Quanta L) := specP_ok mixed (Go_bound_vague_Quanta L hL) (To_bound_vague_Quanta L) fun x r h => ⟨L, 1, e_bound_vague_Quanta L hL x.1.1 x.1.2.1 x.1.2.2.1 x.2.1.1 x.2.1.2.1 x.2.1.2.2.1 r h⟩
end Go.Proofs.Ytnopgienncmcmaa.P
end
section
set_option linter.unusedVariables false
set_option linter.unusedSimpArgs false
set_option maxRecDepth 100000
namespace Go.Proofs.Ytnopgienncmcmaa.E
open Go.Ev
noncomputable def en29 : Entry := ⟨Try.f29, [(1000000, mb 9 0 [4])]⟩
theorem mk29_1000000 (vs : List V) : mask (maskOf en29.ms 1000000) vs = km 9 0 [4] vs := mask_mb _ _ _ _
end Go.Proofs.Ytnopgienncmcmaa.E
end
section
set_option linter.unusedVariables false
set_option linter.unusedSimpArgs false
set_option maxRecDepth 100000
namespace Go.Proofs.Ytnopgienncmcmaa.P
open Go.Ev Go.IntKind Go.Proofs.Ytnopgienncmcmaa Go.Proofs.Ytnopgienncmcmaa.Ty Go.Proofs.Ytnopgienncmcmaa.E
def p_bound_Of_Quanta (L : Nat) (a0 : Int) (a1 : Int) : Option (Int × Int × Bool) := bnd (p_bound_Norm_Quanta L a0 a1 false) fun r1 => some (r1.1, r1.2.1, r1.2.2)
attribute [local go_sem] Ev.putR_s Ev.putR_0 Ev.thenO_s Ev.thenO_0 Ev.seqR_n Ev.seqR_e Ev.seqR_r Ev.seqR_0 Ev.blkR_e Ev.blkR_n Ev.blkR_r Ev.blkR_0 Ev.normR_s Ev.normR_0 Ev.outR_r Ev.outR_n Ev.outR_0 Ev.retS_s Ev.retS_0 Ev.pureO_s Ev.pureO_0 Ev.topR_0 Ev.topR_t Ev.topR_t0 Ev.oneL_0 Ev.oneL_s Ev.topR_d Ev.topR_nils Ev.topR_agg Ev.topR_rs Ev.evOp_move Ev.evOp_assign Ev.evOp_pick Ev.evOp_alloc Ev.evOp_box Ev.evOp_build Ev.evOp_buildSlice Ev.evOp_load Ev.evOp_store Ev.evOp_makeMap Ev.evOp_lookup Ev.evOp_mapUpdate Ev.evOp_insert Ev.evOp_nilCheck Ev.evOp_binOp Ev.evOp_unOp Ev.evOp_convert Ev.evOp_makeFunc Ev.evOp_makeSlice Ev.evOp_slice Ev.evOp_fieldAddr Ev.evOp_field Ev.evOp_indexAddr Ev.evOp_index Ev.evOp_extract Ev.evOp_call Ev.evOp_append Ev.evOp_clear Ev.evOp_len Ev.evLen_d Ev.evLen_rs Ev.evLen_nils Ev.evLen_nila Ev.evLen_mp Ev.evOp_min Ev.evOp_max Ev.condR_b Ev.condR_t Ev.evOps_nil Ev.evOps_plain Ev.evOps_guard Ev.runG_eq Ev.skipG_eq Ev.condL_tt Ev.condL_ff Ev.condL_tf Ev.condL_ft Ev.condL_u Ev.condC_t Ev.condC_f Ev.evC_skip Ev.evC_ret Ev.evC_exit Ev.evC_label Ev.evC_region Ev.evC_draw Ev.evC_seq Ev.evC_cond Ev.evC_block Ev.evC_loop Ev.fin_d Ev.fin_nila Ev.fin_nils Ev.fin_agg_ Ev.fin_rs Ev.finS_s Ev.mapO_fin Ev.upd_upd Ev.argv_d Ev.argv_nila Ev.argv_nils Ev.argv_agg Ev.argv_rs Ev.argv_p Ev.fk_low Ev.appendTo_nils Ev.appendTo_nila Ev.appendTo_rs Ev.consV_d Ev.consV_agg Ev.consV_p Ev.consV_rs Ev.consV_nila Ev.consV_nils Ev.consV_fn Ev.consV_und Ev.consV_jk Ev.consV_grown Ev.topR_grown Ev.len_grown Ev.consV_mp Ev.sameK_i Ev.sameK_s Ev.mget_0 Ev.mget_hit Ev.mget_miss Ev.mput_0 Ev.mput_hit Ev.mput_miss Ev.apartAll Ev.apartL Ev.apartV Ev.freeAll Ev.sel Ev.keyOfV Ev.evLookup Ev.evPut Ev.hintOk Ev.keyOk Ev.consP Ev.lookV Ev.guardV Ev.dstAt Ev.evPure Ev.evStore Ev.evBin Ev.evBinO Ev.evNil Ev.isNilC Ev.evUn Ev.evConv Ev.evSlice Ev.optI Ev.foldI Ev.capsOk Ev.noTup Ev.nth Ev.setN Ev.killAt Ev.pad Ev.V.get Ev.V.put Ev.putD Ev.newBlk Ev.upd Ev.keq Ev.empty Ev.evCall Ev.V.args Ev.argP Ev.callOf Ev.evNilP Ev.isNilP Ev.look Ev.V.view.views Ev.V.view Ev.V.toD Ev.V.toD.V.toDs Ev.V.pure.pures Ev.V.pure Ev.D.flat.flats Ev.D.flat Ev.mkAgg Ev.allD Ev.aggParts Ev.setParts Ev.setElems Ev.getPath Ev.setPath Ev.subL Ev.eqD Ev.eqD.eqDs Ev.and2 Ev.strCut Ev.evalT Ev.constT Ev.evArgs Ev.mask Ev.maskOf Ev.tableOf Ev.compT Ev.resV Ev.retV Ev.mapO Ev.hT_nila Ev.eO_nila Ev.pL_nila Ev.evLen_gl Ev.r_nila Ev.frzO_n Ev.frzO_e Ev.frzO_r Ev.frzO_0 Ev.mb_z Ev.mb_0 Ev.mb_s Ev.frzL_t Ev.frzL_f Ev.frzL_0 Ev.frzT_nils Ev.frzT_rs Ev.frzT_p Ev.frzK_i Ev.keyIn_i Ev.rI_nil Ev.rI_cons Ev.rI_row Ev.rI_app Ev.r_d Ev.r_nils Ev.r_agg Ev.r_rs Ev.r_gl Ev.vw_row Ev.vw_app Ev.appO_s Ev.frzT_gl Ev.allD_gl Ev.killAt_i Ev.tkOne_i Ev.hT_agg Ev.hT_vagg Ev.hT_int Ev.hT_bool Ev.hT_str Ev.hT_sl Ev.hT_ptr Ev.hT_np Ev.hT_p Ev.hT_rs Ev.hT_mp Ev.hT_nils Ev.hT_fn Ev.hT_jk Ev.hT_gl Ev.eO_sl Ev.eO_nils Ev.eO_rs Ev.eT_sl Ev.eT_rs Ev.pL_str Ev.pL_sl Ev.pL_rs Ev.pL_nils Ev.pL_min Ev.pL_max Ev.len_glB Ev.noTup_gl Ev.rowV_len Ev.rowV_nil Ev.rowV_cons Ev.rowV_append Ev.rowV_set Ev.rowV_replicate Ev.nth_row Ev.row_take Ev.row_drop Ev.toDs_row Ev.fin_row Ev.map_row Ev.map_take_ Ev.map_drop_ Ev.Bk_i Ev.GlB_0 Ev.GlB_mk Ev.gl_nil Ev.gl_cons Ev.gl_snoc Ev.gl_setN Ev.appendTo_gl Ev.consV_gl Ev.elems_gl Ev.fin_gl Ev.view_gl Ev.argv_gl Ev.topR_gl Ev.sp_z Ev.sp_0 Ev.sp_s Ev.km_z Ev.km_0 Ev.km_s Ev.beq_toList Ev.nc0 Ev.bq_t Ev.bq_f Ev.bodyN Ev.le_maxRow Int.cast_ofNat_Int IntWalk.i64_in IntWalk.u64_in IntWalk.u8_in beq_self_eq_true Bool.true_beq Bool.false_beq Bool.and_true Bool.true_and Bool.false_and Bool.and_false Bool.and_self Bool.not_true Bool.not_false Bool.not_eq_true cond_true cond_false if_true if_false and_true true_and and_self decide_true decide_false Bool.or_true Bool.true_or Bool.or_false Bool.false_or List.isEmpty List.isEmpty_nil List.size_toArray List.map List.length_map List.length_cons List.length_nil Option.map Option.bind Option.getD Option.isSome List.replicate Bool.false_eq_true implies_true false_implies forall_const Array.toList Array.isEmpty List.append List.nil_append List.cons_append List.drop_zero List.take_length List.take_succ_cons List.take_zero List.take_nil List.getElem?_map List.getElem?_cons_zero List.getElem?_cons_succ List.getElem?_nil List.append_nil eq_self Int.toNat_natCast List.length_append Nat.zero_add Nat.add_zero List.length_replicate Nat.sub_zero Option.map_some Option.map_none Int.le_refl Nat.le_refl Int.natCast_nonneg List.map_append
attribute [local go_sem_proc] Nat.reduceAdd Nat.reduceSub Nat.reduceMul Nat.reduceEqDiff Nat.reduceBEq Nat.reduceLT Nat.reduceLeDiff Nat.reducePow Int.reduceToNat Int.reduceLT Int.reduceLE Int.reduceGT Int.reduceGE Int.reduceEq Int.reduceNeg Int.reduceAdd Int.reduceSub Int.reduceMul reduceCtorEq
attribute [local go_sem_proc ↓] reduceIte
noncomputable def G_bound_Of_Quanta (L : Nat) : Specs := [(28, s_bound_Norm_Quanta L)]
noncomputable def T_bound_Of_Quanta : Table := tableOf [(29, en29)]
theorem Go_bound_Of_Quanta (L : Nat) (hL : L ≤ 4611686018427387904) : ∀ g s, Ev.look (G_bound_Of_Quanta L) g = some s → SpecOk Try.prog g s := (specs_cons (ok_bound_Norm_Quanta L hL) specs_nil)
theorem To_bound_Of_Quanta (L : Nat) : TableOk Try.prog ((G_bound_Of_Quanta L).map (·.1)) T_bound_Of_Quanta := (table_cons Try.func29 (by kernel_rfl) (by kernel_rfl) table_nil)
theorem lk_bound_Of_Quanta_28 (L : Nat) : Ev.look (G_bound_Of_Quanta L) 28 = some (s_bound_Norm_Quanta L) := nr rfl
attribute [local go_sem] Ty.tk4 Ty.ub4 Ty.ek4 Ty.zv4 Ty.by4 Ty.so4 Ty.tk45 Ty.ik45 Ty.ek45 Ty.zv45 Ty.by45 Ty.so45 Ty.tk47 Ty.ct47 Ty.ek47 Ty.zv47 Ty.by47 Ty.so47 Ty.k47_e E.mk29_1000000 lk_bound_Of_Quanta_28 s_bound_Norm_Quanta_run loopN loops Try.f29
theorem e_bound_Of_Quanta (L : Nat) (hL : L ≤ 4611686018427387904) (a0 : Int) (a1 : Int) (res : Int × Int × Bool) (h : p_bound_Of_Quanta L a0 a1 = some res) : evTop Try.prog (G_bound_Of_Quanta L) T_bound_Of_Quanta L 1 29 [.int .i64 a0, .int .i64 a1] = some [.agg 47 [.int .i64 res.1, .int .i64 res.2.1, .bool res.2.2]] := by
  revert h
  unfold p_bound_Of_Quanta evTop
  simp only [List.map]
  rw [evF_s (fn := Try.f29) (msk := en29.ms) (hT := by rfl) (hb := by rfl)]
  refine bnd_i fun r1 c1 => ?_
  rintro ⟨⟩
  simp only [go_sem, *]
noncomputable def s_bound_Of_Quanta (L : Nat) : Ev.Spec := specP (cCons (cI .i64) (cCons (cI .i64) cNil)) (fun x => p_bound_Of_Quanta L x.1 x.2.1) (fun r => [.agg 47 [.int .i64 r.1, .int .i64 r.2.1, .bool r.2.2]])
theorem s_bound_Of_Quanta_run (L : Nat) (a0 : Int) (a1 : Int) : (s_bound_Of_Quanta L).run [.int .i64 a0, .int .i64 a1] = (p_bound_Of_Quanta L a0 a1).map fun r => [.agg 47 [.int .i64 r.1, .int .i64 r.2.1, .bool r.2.2]] := specP_run (cCons (cI .i64) (cCons (cI .i64) cNil)) (fun x => p_bound_Of_Quanta L x.1 x.2.1) (fun r => [.agg 47 [.int .i64 r.1, .int .i64 r.2.1, .bool r.2.2]]) (a0, a1, ())
theorem ok_bound_Of_Quanta (L : Nat) (hL : L ≤ 4611686018427387904) : SpecOk Try.prog 29 (s_bound_Of_Quanta L) := specP_ok mixed (Go_bound_Of_Quanta L hL) (To_bound_Of_Quanta L) fun x r h => ⟨L, 1, e_bound_Of_Quanta L hL x.1 x.2.1 r h⟩
end Go.Proofs.Ytnopgienncmcmaa.P
end
section
set_option linter.unusedVariables false
set_option linter.unusedSimpArgs false
set_option maxRecDepth 100000
namespace Go.Proofs.Ytnopgienncmcmaa.E
open Go.Ev
noncomputable def en50 : Entry := ⟨Try.f50, [(1000001, mb 56 0 []), (1000000, mb 56 0 [6])]⟩
theorem mk50_1000001 (vs : List V) : mask (maskOf en50.ms 1000001) vs = km 56 0 [] vs := mask_mb _ _ _ _
theorem mk50_1000000 (vs : List V) : mask (maskOf en50.ms 1000000) vs = km 56 0 [6] vs := mask_mb _ _ _ _
end Go.Proofs.Ytnopgienncmcmaa.E
end
section
set_option linter.unusedVariables false
set_option linter.unusedSimpArgs false
set_option maxRecDepth 100000
namespace Go.Proofs.Ytnopgienncmcmaa.P
open Go.Ev Go.IntKind Go.Proofs.Ytnopgienncmcmaa Go.Proofs.Ytnopgienncmcmaa.Ty Go.Proofs.Ytnopgienncmcmaa.E
def p_spyref3_BoundFault_Quanta (L : Nat) (a0_0 : Int) (a0_1 : Int) (a0_2 : Bool) (a1 : Int) (a2 : Int) : Option Int := cb a0_2 (cb (decide (a0_0 = 0)) (cb (decide (a0_1 = 0)) (if a0_0 < (-1152921504606846976) then (some 4) else (if a0_0 > 1152921504606846976 then (some 4) else (if a0_1 < (-1152921504606846976) then (some 4) else (if a0_1 > 1152921504606846976 then (some 4) else (if a0_0 > a0_1 then (some 11) else (if a0_0 < a1 then (some 4) else (if a0_1 > a2 then (some 4) else (some 0)))))))) (some 3)) (some 3)) (if a0_0 < (-1152921504606846976) then (some 4) else (if a0_0 > 1152921504606846976 then (some 4) else (if a0_1 < (-1152921504606846976) then (some 4) else (if a0_1 > 1152921504606846976 then (some 4) else (if a0_0 > a0_1 then (some 11) else (if a0_0 < a1 then (some 4) else (if a0_1 > a2 then (some 4) else (some 0))))))))
attribute [local go_sem] Ev.putR_s Ev.putR_0 Ev.thenO_s Ev.thenO_0 Ev.seqR_n Ev.seqR_e Ev.seqR_r Ev.seqR_0 Ev.blkR_e Ev.blkR_n Ev.blkR_r Ev.blkR_0 Ev.normR_s Ev.normR_0 Ev.outR_r Ev.outR_n Ev.outR_0 Ev.retS_s Ev.retS_0 Ev.pureO_s Ev.pureO_0 Ev.topR_0 Ev.topR_t Ev.topR_t0 Ev.oneL_0 Ev.oneL_s Ev.topR_d Ev.topR_nils Ev.topR_agg Ev.topR_rs Ev.evOp_move Ev.evOp_assign Ev.evOp_pick Ev.evOp_alloc Ev.evOp_box Ev.evOp_build Ev.evOp_buildSlice Ev.evOp_load Ev.evOp_store Ev.evOp_makeMap Ev.evOp_lookup Ev.evOp_mapUpdate Ev.evOp_insert Ev.evOp_nilCheck Ev.evOp_binOp Ev.evOp_unOp Ev.evOp_convert Ev.evOp_makeFunc Ev.evOp_makeSlice Ev.evOp_slice Ev.evOp_fieldAddr Ev.evOp_field Ev.evOp_indexAddr Ev.evOp_index Ev.evOp_extract Ev.evOp_call Ev.evOp_append Ev.evOp_clear Ev.evOp_len Ev.evLen_d Ev.evLen_rs Ev.evLen_nils Ev.evLen_nila Ev.evLen_mp Ev.evOp_min Ev.evOp_max Ev.condR_b Ev.condR_t Ev.evOps_nil Ev.evOps_plain Ev.evOps_guard Ev.runG_eq Ev.skipG_eq Ev.condL_tt Ev.condL_ff Ev.condL_tf Ev.condL_ft Ev.condL_u Ev.condC_t Ev.condC_f Ev.evC_skip Ev.evC_ret Ev.evC_exit Ev.evC_label Ev.evC_region Ev.evC_draw Ev.evC_seq Ev.evC_cond Ev.evC_block Ev.evC_loop Ev.fin_d Ev.fin_nila Ev.fin_nils Ev.fin_agg_ Ev.fin_rs Ev.finS_s Ev.mapO_fin Ev.upd_upd Ev.argv_d Ev.argv_nila Ev.argv_nils Ev.argv_agg Ev.argv_rs Ev.argv_p Ev.fk_low Ev.appendTo_nils Ev.appendTo_nila Ev.appendTo_rs Ev.consV_d Ev.consV_agg Ev.consV_p Ev.consV_rs Ev.consV_nila Ev.consV_nils Ev.consV_fn Ev.consV_und Ev.consV_jk Ev.consV_grown Ev.topR_grown Ev.len_grown Ev.consV_mp Ev.sameK_i Ev.sameK_s Ev.mget_0 Ev.mget_hit Ev.mget_miss Ev.mput_0 Ev.mput_hit Ev.mput_miss Ev.apartAll Ev.apartL Ev.apartV Ev.freeAll Ev.sel Ev.keyOfV Ev.evLookup Ev.evPut Ev.hintOk Ev.keyOk Ev.consP Ev.lookV Ev.guardV Ev.dstAt Ev.evPure Ev.evStore Ev.evBin Ev.evBinO Ev.evNil Ev.isNilC Ev.evUn Ev.evConv Ev.evSlice Ev.optI Ev.foldI Ev.capsOk Ev.noTup Ev.nth Ev.setN Ev.killAt Ev.pad Ev.V.get Ev.V.put Ev.putD Ev.newBlk Ev.upd Ev.keq Ev.empty Ev.evCall Ev.V.args Ev.argP Ev.callOf Ev.evNilP Ev.isNilP Ev.look Ev.V.view.views Ev.V.view Ev.V.toD Ev.V.toD.V.toDs Ev.V.pure.pures Ev.V.pure Ev.D.flat.flats Ev.D.flat Ev.mkAgg Ev.allD Ev.aggParts Ev.setParts Ev.setElems Ev.getPath Ev.setPath Ev.subL Ev.eqD Ev.eqD.eqDs Ev.and2 Ev.strCut Ev.evalT Ev.constT Ev.evArgs Ev.mask Ev.maskOf Ev.tableOf Ev.compT Ev.resV Ev.retV Ev.mapO Ev.hT_nila Ev.eO_nila Ev.pL_nila Ev.evLen_gl Ev.r_nila Ev.frzO_n Ev.frzO_e Ev.frzO_r Ev.frzO_0 Ev.mb_z Ev.mb_0 Ev.mb_s Ev.frzL_t Ev.frzL_f Ev.frzL_0 Ev.frzT_nils Ev.frzT_rs Ev.frzT_p Ev.frzK_i Ev.keyIn_i Ev.rI_nil Ev.rI_cons Ev.rI_row Ev.rI_app Ev.r_d Ev.r_nils Ev.r_agg Ev.r_rs Ev.r_gl Ev.vw_row Ev.vw_app Ev.appO_s Ev.frzT_gl Ev.allD_gl Ev.killAt_i Ev.tkOne_i Ev.hT_agg Ev.hT_vagg Ev.hT_int Ev.hT_bool Ev.hT_str Ev.hT_sl Ev.hT_ptr Ev.hT_np Ev.hT_p Ev.hT_rs Ev.hT_mp Ev.hT_nils Ev.hT_fn Ev.hT_jk Ev.hT_gl Ev.eO_sl Ev.eO_nils Ev.eO_rs Ev.eT_sl Ev.eT_rs Ev.pL_str Ev.pL_sl Ev.pL_rs Ev.pL_nils Ev.pL_min Ev.pL_max Ev.len_glB Ev.noTup_gl Ev.rowV_len Ev.rowV_nil Ev.rowV_cons Ev.rowV_append Ev.rowV_set Ev.rowV_replicate Ev.nth_row Ev.row_take Ev.row_drop Ev.toDs_row Ev.fin_row Ev.map_row Ev.map_take_ Ev.map_drop_ Ev.Bk_i Ev.GlB_0 Ev.GlB_mk Ev.gl_nil Ev.gl_cons Ev.gl_snoc Ev.gl_setN Ev.appendTo_gl Ev.consV_gl Ev.elems_gl Ev.fin_gl Ev.view_gl Ev.argv_gl Ev.topR_gl Ev.sp_z Ev.sp_0 Ev.sp_s Ev.km_z Ev.km_0 Ev.km_s Ev.beq_toList Ev.nc0 Ev.bq_t Ev.bq_f Ev.bodyN Ev.le_maxRow Int.cast_ofNat_Int IntWalk.i64_in IntWalk.u64_in IntWalk.u8_in beq_self_eq_true Bool.true_beq Bool.false_beq Bool.and_true Bool.true_and Bool.false_and Bool.and_false Bool.and_self Bool.not_true Bool.not_false Bool.not_eq_true cond_true cond_false if_true if_false and_true true_and and_self decide_true decide_false Bool.or_true Bool.true_or Bool.or_false Bool.false_or List.isEmpty List.isEmpty_nil List.size_toArray List.map List.length_map List.length_cons List.length_nil Option.map Option.bind Option.getD Option.isSome List.replicate Bool.false_eq_true implies_true false_implies forall_const Array.toList Array.isEmpty List.append List.nil_append List.cons_append List.drop_zero List.take_length List.take_succ_cons List.take_zero List.take_nil List.getElem?_map List.getElem?_cons_zero List.getElem?_cons_succ List.getElem?_nil List.append_nil eq_self Int.toNat_natCast List.length_append Nat.zero_add Nat.add_zero List.length_replicate Nat.sub_zero Option.map_some Option.map_none Int.le_refl Nat.le_refl Int.natCast_nonneg List.map_append
attribute [local go_sem_proc] Nat.reduceAdd Nat.reduceSub Nat.reduceMul Nat.reduceEqDiff Nat.reduceBEq Nat.reduceLT Nat.reduceLeDiff Nat.reducePow Int.reduceToNat Int.reduceLT Int.reduceLE Int.reduceGT Int.reduceGE Int.reduceEq Int.reduceNeg Int.reduceAdd Int.reduceSub Int.reduceMul reduceCtorEq
attribute [local go_sem_proc ↓] reduceIte
noncomputable def G_spyref3_BoundFault_Quanta (L : Nat) : Specs := []
noncomputable def T_spyref3_BoundFault_Quanta : Table := tableOf [(50, en50)]
theorem Go_spyref3_BoundFault_Quanta (L : Nat) (hL : L ≤ 4611686018427387904) : ∀ g s, Ev.look (G_spyref3_BoundFault_Quanta L) g = some s → SpecOk Try.prog g s := specs_nil
theorem To_spyref3_BoundFault_Quanta (L : Nat) : TableOk Try.prog ((G_spyref3_BoundFault_Quanta L).map (·.1)) T_spyref3_BoundFault_Quanta := (table_cons Try.func50 (by kernel_rfl) (by kernel_rfl) table_nil)
attribute [local go_sem] Ty.tk4 Ty.ub4 Ty.ek4 Ty.zv4 Ty.by4 Ty.so4 Ty.tk24 Ty.ik24 Ty.ek24 Ty.zv24 Ty.by24 Ty.so24 Ty.tk45 Ty.ik45 Ty.ek45 Ty.zv45 Ty.by45 Ty.so45 Ty.tk47 Ty.ct47 Ty.ek47 Ty.zv47 Ty.by47 Ty.so47 Ty.k47_e E.mk50_1000001 E.mk50_1000000 loopN loops Try.f50
theorem e_spyref3_BoundFault_Quanta (L : Nat) (hL : L ≤ 4611686018427387904) (a0_0 : Int) (a0_1 : Int) (a0_2 : Bool) (a1 : Int) (a2 : Int) (res : Int) (h : p_spyref3_BoundFault_Quanta L a0_0 a0_1 a0_2 a1 a2 = some res) : evTop Try.prog (G_spyref3_BoundFault_Quanta L) T_spyref3_BoundFault_Quanta L 1 50 [.agg 47 [.int .i64 a0_0, .int .i64 a0_1, .bool a0_2], .int .i64 a1, .int .i64 a2] = some [.int .i64 res] := by
  revert h
  unfold p_spyref3_BoundFault_Quanta evTop
  simp only [List.map]
  rw [evF_s (fn := Try.f50) (msk := en50.ms) (hT := by rfl) (hb := by rfl)]
  refine cb_i (fun c1 => ?_) (fun c1 => ?_)
  · refine cb_i (fun c2 => ?_) (fun c2 => ?_)
    · refine cb_i (fun c3 => ?_) (fun c3 => ?_)
      · refine ite_i (fun c4 => ?_) (fun c4 => ?_)
        · rintro ⟨⟩
          simp only [go_sem, *]
        · refine ite_i (fun c5 => ?_) (fun c5 => ?_)
          · rintro ⟨⟩
            simp only [go_sem, *]
          · refine ite_i (fun c6 => ?_) (fun c6 => ?_)
            · rintro ⟨⟩
              simp only [go_sem, *]
            · refine ite_i (fun c7 => ?_) (fun c7 => ?_)
              · rintro ⟨⟩
                simp only [go_sem, *]
              · refine ite_i (fun c8 => ?_) (fun c8 => ?_)
                · rintro ⟨⟩
                  simp only [go_sem, *]
                · refine ite_i (fun c9 => ?_) (fun c9 => ?_)
                  · rintro ⟨⟩
                    simp only [go_sem, *]
                  · refine ite_i (fun c10 => ?_) (fun c10 => ?_)
                    · rintro ⟨⟩
                      simp only [go_sem, *]
                    · rintro ⟨⟩
                      simp only [go_sem, *]
      · rintro ⟨⟩
        simp only [go_sem, *]
    · rintro ⟨⟩
      simp only [go_sem, *]
  · refine ite_i (fun c11 => ?_) (fun c11 => ?_)
    · rintro ⟨⟩
      simp only [go_sem, *]
    · refine ite_i (fun c12 => ?_) (fun c12 => ?_)
      · rintro ⟨⟩
        simp only [go_sem, *]
      · refine ite_i (fun c13 => ?_) (fun c13 => ?_)
        · rintro ⟨⟩
          simp only [go_sem, *]
        · refine ite_i (fun c14 => ?_) (fun c14 => ?_)
          · rintro ⟨⟩
            simp only [go_sem, *]
          · refine ite_i (fun c15 => ?_) (fun c15 => ?_)
            · rintro ⟨⟩
              simp only [go_sem, *]
            · refine ite_i (fun c16 => ?_) (fun c16 => ?_)
              · rintro ⟨⟩
                simp only [go_sem, *]
              · refine ite_i (fun c17 => ?_) (fun c17 => ?_)
                · rintro ⟨⟩
                  simp only [go_sem, *]
                · rintro ⟨⟩
                  simp only [go_sem, *]
noncomputable def s_spyref3_BoundFault_Quanta (L : Nat) : Ev.Spec := specP (cCons k47 (cCons (cI .i64) (cCons (cI .i64) cNil))) (fun x => p_spyref3_BoundFault_Quanta L x.1.1 x.1.2.1 x.1.2.2.1 x.2.1 x.2.2.1) (fun r => [.int .i64 r])
theorem s_spyref3_BoundFault_Quanta_run (L : Nat) (a0_0 : Int) (a0_1 : Int) (a0_2 : Bool) (a1 : Int) (a2 : Int) : (s_spyref3_BoundFault_Quanta L).run [.agg 47 [.int .i64 a0_0, .int .i64 a0_1, .bool a0_2], .int .i64 a1, .int .i64 a2] = (p_spyref3_BoundFault_Quanta L a0_0 a0_1 a0_2 a1 a2).map fun r => [.int .i64 r] := specP_run (cCons k47 (cCons (cI .i64) (cCons (cI .i64) cNil))) (fun x => p_spyref3_BoundFault_Quanta L x.1.1 x.1.2.1 x.1.2.2.1 x.2.1 x.2.2.1) (fun r => [.int .i64 r]) ((a0_0, a0_1, a0_2, ()), a1, a2, ())
theorem ok_spyref3_BoundFault_Quanta (L : Nat) (hL : L ≤ 4611686018427387904) : SpecOk Try.prog 50 (s_spyref3_BoundFault_Quanta L) := specP_ok mixed (Go_spyref3_BoundFault_Quanta L hL) (To_spyref3_BoundFault_Quanta L) fun x r h => ⟨L, 1, e_spyref3_BoundFault_Quanta L hL x.1.1 x.1.2.1 x.1.2.2.1 x.2.1 x.2.2.1 r h⟩
end Go.Proofs.Ytnopgienncmcmaa.P
end
section
set_option linter.unusedVariables false
set_option linter.unusedSimpArgs false
namespace Go.Proofs.Ytnopgienncmcmaa.PlBndAQuanta
open Go.Ev Go.IntKind Go.Pl Go.Proofs.Ytnopgienncmcmaa.P
abbrev Bd := Int × Int × Bool × Unit
def chk (a b : Int) (u : Bool) : Int := if u = true ∧ (a ≠ 0 ∨ b ≠ 0) then 3 else if a < -1152921504606846976 ∨ a > 1152921504606846976 ∨ b < -1152921504606846976 ∨ b > 1152921504606846976 then 4 else if a > b then 11 else 0
def bad (b : Bd) : Bool := b.2.2.1 || decide (b.1 > b.2.1) || decide (b.1 < -1152921504606846976) || decide (b.2.1 > 1152921504606846976)
def fault (a b : Int) (u : Bool) (lo hi : Int) : Int := if chk a b u ≠ 0 then chk a b u else if a < lo ∨ b > hi then 4 else 0
theorem check_eq (L : Nat) (a b : Int) (u : Bool) : p_bound_Check_Quanta L a b u = some (chk a b u) := by
  unfold p_bound_Check_Quanta chk
  unfold minI maxI
  cases u
  · simp only [cb_f, Bool.false_eq_true, false_and, if_false]
    repeat' split
    all_goals first | rfl | (exfalso; omega)
  · rw [cb_t, cb_d, cb_d]
    by_cases h1 : a = 0
    · by_cases h2 : b = 0
      · subst h1 h2; decide
      · rw [if_pos h1, if_neg h2, if_pos ⟨rfl, .inr h2⟩]
    · rw [if_neg h1, if_pos ⟨rfl, .inl h1⟩]
theorem fault_eq (L : Nat) (a b : Int) (u : Bool) (lo hi : Int) : p_spyref3_BoundFault_Quanta L a b u lo hi = some (fault a b u lo hi) := by
  unfold p_spyref3_BoundFault_Quanta fault chk
  cases u
  · simp only [cb_f, Bool.false_eq_true, false_and, if_false]
    repeat' split
    all_goals first | rfl | (exfalso; omega)
  · simp only [cb_t, cb_d, true_and]
    repeat' split
    all_goals first | rfl | (exfalso; omega)
theorem chk_known (a b : Int) : chk a b false = 0 ↔ bad (a, b, false, ()) = false := by
  unfold chk bad
  simp only [Bool.false_eq_true, false_and, if_false, Bool.false_or, Bool.or_eq_false_iff, decide_eq_false_iff_not]
  split
  · omega
  · split <;> omega
def none_ : Int × Int × Bool := (0, 0, true)
def norm (a b : Int) (u : Bool) : Int × Int × Bool := if chk a b u = 0 then (a, b, u) else none_
theorem norm_eq (L : Nat) (a b : Int) (u : Bool) : p_bound_Norm_Quanta L a b u = some (norm a b u) := by
  unfold p_bound_Norm_Quanta norm
  rw [check_eq, bnd_s, cb_d]
  split <;> rfl
theorem norm_vague (a b : Int) (u : Bool) : (norm a b u).2.2 = bad (a, b, u, ()) := by
  unfold norm
  cases u with
  | true => split <;> simp [bad, none_]
  | false =>
    by_cases h : chk a b false = 0
    · rw [if_pos h, (chk_known a b).1 h]
    · rw [if_neg h]
      have : ¬ bad (a, b, false, ()) = false := fun e => h ((chk_known a b).2 e)
      simp only [none_]
      exact (Bool.not_eq_false _ ▸ this : bad (a, b, false, ()) = true).symm
theorem norm_good {a b : Int} {u : Bool} (h : bad (a, b, u, ()) = false) : norm a b u = (a, b, u) := by
  have := norm_vague a b u
  rw [h] at this
  unfold norm at this ⊢
  split
  · rfl
  · rename_i hc
    rw [if_neg hc] at this
    cases this
theorem none_eq (L : Nat) : p_bound_None_Quanta L = some none_ := rfl
theorem of_eq (L : Nat) (a b : Int) : p_bound_Of_Quanta L a b = some (norm a b false) := by unfold p_bound_Of_Quanta; rw [norm_eq, bnd_s]
theorem vague_eq (L : Nat) (a b : Int) (u : Bool) (c d : Int) (v : Bool) : p_bound_vague_Quanta L a b u c d v = some (bad (a, b, u, ()) || bad (c, d, v, ())) := by
  unfold p_bound_vague_Quanta
  rw [norm_eq, bnd_s, norm_vague, norm_eq, bnd_s, norm_vague]
  cases bad (a, b, u, ()) <;> rfl
end Go.Proofs.Ytnopgienncmcmaa.PlBndAQuanta
end
section
set_option linter.unusedVariables false
set_option linter.unusedSimpArgs false
set_option maxRecDepth 100000
namespace Go.Proofs.Ytnopgienncmcmaa.E
open Go.Ev
noncomputable def en27 : Entry := ⟨Try.f27, [(0, mb 53 0 [1, 2, 4, 5, 10, 11, 12]), (1000001, mb 53 0 [1, 2, 4, 5]), (1000002, mb 53 0 [1, 2, 4, 5, 10, 11, 12]), (1000000, mb 53 0 [4])]⟩
theorem mk27_0 (vs : List V) : mask (maskOf en27.ms 0) vs = km 53 0 [1, 2, 4, 5, 10, 11, 12] vs := mask_mb _ _ _ _
theorem mk27_1000001 (vs : List V) : mask (maskOf en27.ms 1000001) vs = km 53 0 [1, 2, 4, 5] vs := mask_mb _ _ _ _
theorem mk27_1000002 (vs : List V) : mask (maskOf en27.ms 1000002) vs = km 53 0 [1, 2, 4, 5, 10, 11, 12] vs := mask_mb _ _ _ _
theorem mk27_1000000 (vs : List V) : mask (maskOf en27.ms 1000000) vs = km 53 0 [4] vs := mask_mb _ _ _ _
theorem fz27_0 (lv : Nat) (f : Run) : frzF en27.ms lv 0 f = f := nr rfl
theorem fi27_0 (lv : Nat) (env : List V) (st : Store) (q : Store → Out) : frzI en27.ms lv 0 env st q = q st := nr rfl
noncomputable def lb27_0 : Code := loopN Try.f27 0
end Go.Proofs.Ytnopgienncmcmaa.E
end
section
set_option linter.unusedVariables false
set_option linter.unusedSimpArgs false
set_option maxRecDepth 100000
namespace Go.Proofs.Ytnopgienncmcmaa.E
open Go.Ev
noncomputable def en46 : Entry := ⟨Try.f46, [(0, mb 42 0 [0, 1, 5, 6]), (1000001, mb 42 0 [0, 5]), (1000002, mb 42 0 [0, 1, 5, 6]), (1000000, mb 42 0 [4])]⟩
theorem mk46_0 (vs : List V) : mask (maskOf en46.ms 0) vs = km 42 0 [0, 1, 5, 6] vs := mask_mb _ _ _ _
theorem mk46_1000001 (vs : List V) : mask (maskOf en46.ms 1000001) vs = km 42 0 [0, 5] vs := mask_mb _ _ _ _
theorem mk46_1000002 (vs : List V) : mask (maskOf en46.ms 1000002) vs = km 42 0 [0, 1, 5, 6] vs := mask_mb _ _ _ _
theorem mk46_1000000 (vs : List V) : mask (maskOf en46.ms 1000000) vs = km 42 0 [4] vs := mask_mb _ _ _ _
theorem fz46_0 (lv : Nat) (f : Run) : frzF en46.ms lv 0 f = f := nr rfl
theorem fi46_0 (lv : Nat) (env : List V) (st : Store) (q : Store → Out) : frzI en46.ms lv 0 env st q = q st := nr rfl
noncomputable def lb46_0 : Code := loopN Try.f46 0
end Go.Proofs.Ytnopgienncmcmaa.E
end
section
set_option linter.unusedVariables false
set_option linter.unusedSimpArgs false
set_option maxRecDepth 100000
namespace Go.Proofs.Ytnopgienncmcmaa.E
open Go.Ev
noncomputable def en62 : Entry := ⟨Try.f62, [(0, mb 19 0 [0, 1, 7, 8]), (1000001, mb 19 0 []), (1000002, mb 19 0 [0, 1, 7, 8]), (1000000, mb 19 0 [4])]⟩
theorem mk62_0 (vs : List V) : mask (maskOf en62.ms 0) vs = km 19 0 [0, 1, 7, 8] vs := mask_mb _ _ _ _
theorem mk62_1000001 (vs : List V) : mask (maskOf en62.ms 1000001) vs = km 19 0 [] vs := mask_mb _ _ _ _
theorem mk62_1000002 (vs : List V) : mask (maskOf en62.ms 1000002) vs = km 19 0 [0, 1, 7, 8] vs := mask_mb _ _ _ _
theorem mk62_1000000 (vs : List V) : mask (maskOf en62.ms 1000000) vs = km 19 0 [4] vs := mask_mb _ _ _ _
theorem fz62_0 (lv : Nat) (f : Run) : frzF en62.ms lv 0 f = f := nr rfl
theorem fi62_0 (lv : Nat) (env : List V) (st : Store) (q : Store → Out) : frzI en62.ms lv 0 env st q = q st := nr rfl
noncomputable def lb62_0 : Code := loopN Try.f62 0
end Go.Proofs.Ytnopgienncmcmaa.E
end
section
set_option linter.unusedVariables false
set_option linter.unusedSimpArgs false
set_option maxRecDepth 100000
namespace Go.Proofs.Ytnopgienncmcmaa.E
open Go.Ev
noncomputable def en44 : Entry := ⟨Try.f44, [(1000000, mb 10 0 [4])]⟩
theorem dw44_1 (lv : Nat) (env : List V) (st : Store) (o : Option (List V × Store)) : drawR en44.ms 1 lv env st o = if lv < 1000000000000000000000000000000 then (o) else none := nr rfl
theorem kl44_1 (lv : Nat) (st : Store) : killR en44.ms 1 lv st = st := nr rfl
theorem nc44_1 : ncOf en44.ms 1 = false := nr rfl
theorem mk44_1000000 (vs : List V) : mask (maskOf en44.ms 1000000) vs = km 10 0 [4] vs := mask_mb _ _ _ _
end Go.Proofs.Ytnopgienncmcmaa.E
end
section
set_option linter.unusedVariables false
set_option linter.unusedSimpArgs false
set_option maxRecDepth 100000
namespace Go.Proofs.Ytnopgienncmcmaa.E
open Go.Ev
noncomputable def en45 : Entry := ⟨Try.f45, [(0, mb 27 0 [1, 5, 8, 9, 10]), (1000001, mb 27 0 [5]), (1000002, mb 27 0 [1, 5, 8, 9, 10]), (1000000, mb 27 0 [4])]⟩
theorem mk45_0 (vs : List V) : mask (maskOf en45.ms 0) vs = km 27 0 [1, 5, 8, 9, 10] vs := mask_mb _ _ _ _
theorem mk45_1000001 (vs : List V) : mask (maskOf en45.ms 1000001) vs = km 27 0 [5] vs := mask_mb _ _ _ _
theorem mk45_1000002 (vs : List V) : mask (maskOf en45.ms 1000002) vs = km 27 0 [1, 5, 8, 9, 10] vs := mask_mb _ _ _ _
theorem mk45_1000000 (vs : List V) : mask (maskOf en45.ms 1000000) vs = km 27 0 [4] vs := mask_mb _ _ _ _
theorem fz45_0 (lv : Nat) (f : Run) : frzF en45.ms lv 0 f = f := nr rfl
theorem fi45_0 (lv : Nat) (env : List V) (st : Store) (q : Store → Out) : frzI en45.ms lv 0 env st q = q st := nr rfl
noncomputable def lb45_0 : Code := loopN Try.f45 0
end Go.Proofs.Ytnopgienncmcmaa.E
end
section
set_option linter.unusedVariables false
set_option linter.unusedSimpArgs false
set_option maxRecDepth 100000
namespace Go.Proofs.Ytnopgienncmcmaa.E
open Go.Ev
noncomputable def en61 : Entry := ⟨Try.f61, [(1000000, mb 20 0 [4])]⟩
theorem mk61_1000000 (vs : List V) : mask (maskOf en61.ms 1000000) vs = km 20 0 [4] vs := mask_mb _ _ _ _
end Go.Proofs.Ytnopgienncmcmaa.E
end
