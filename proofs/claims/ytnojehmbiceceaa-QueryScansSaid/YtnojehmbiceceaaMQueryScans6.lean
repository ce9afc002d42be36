/- Parts of one proof, joined: EvY, PlBase, Ty, E8, E32, E35, E37, E41, E45, E105, E119, E121, E125, E181, E193, E227, E258, E265, E100, G100, E126, E99, G99, G126, E127, E194, G194. -/
import Derived.Test.YtnojehmbiceceaaMQueryScans5
import Derived.Test.YtnojehmbiceceaaProg
section
set_option linter.unusedVariables false
set_option linter.unusedSimpArgs false
namespace Go.Ev
/-! ### partial functions -/
def rq (c : Prop) [Decidable c] {α : Type} (k : Option α) : Option α := if c then k else none
theorem rq_e {c : Prop} [Decidable c] {α : Type} {k : Option α} {r : α} (h : rq c k = some r) : c ∧ k = some r := by
  unfold rq at h; split at h
  · exact ⟨by assumption, h⟩
  · cases h
theorem rq_t {c : Prop} [Decidable c] {α : Type} {k : Option α} (h : c) : rq c k = k := by unfold rq; rw [if_pos h]
theorem ite_e {c : Prop} [Decidable c] {α : Type} {x y : Option α} {r : α} (h : (if c then x else y) = some r) : (c ∧ x = some r) ∨ (¬ c ∧ y = some r) := by
  split at h
  · exact .inl ⟨by assumption, h⟩
  · exact .inr ⟨by assumption, h⟩
def cb (b : Bool) {α : Type} (x y : Option α) : Option α := if b = true then x else y
theorem cb_e {b : Bool} {α : Type} {x y : Option α} {r : α} (h : cb b x y = some r) : (b = true ∧ x = some r) ∨ (b = false ∧ y = some r) := by
  cases b
  · exact .inr ⟨rfl, h⟩
  · exact .inl ⟨rfl, h⟩
theorem cb_t {α : Type} {x y : Option α} : cb true x y = x := nr rfl
theorem cb_f {α : Type} {x y : Option α} : cb false x y = y := nr rfl
def bnd {α β : Type} (x : Option α) (f : α → Option β) : Option β := match x with | some v => f v | none => none
theorem bnd_e {α β : Type} {x : Option α} {f : α → Option β} {r : β} (h : bnd x f = some r) : ∃ v, x = some v ∧ f v = some r := by
  cases x with
  | none => cases h
  | some v => exact ⟨v, rfl, h⟩
theorem bnd_s {α β : Type} {v : α} {f : α → Option β} : bnd (some v) f = f v := nr rfl
theorem bnd_0 {α β : Type} {f : α → Option β} : bnd none f = none := nr rfl
def idx {α : Type} (l : List α) (i : Int) : Option α := if 0 ≤ i then l[i.toNat]? else none
theorem idx_e {α : Type} {l : List α} {i : Int} {v : α} (h : idx l i = some v) : 0 ≤ i ∧ i < (l.length : Int) ∧ l[i.toNat]? = some v := by
  unfold idx at h; split at h
  · rename_i h0
    obtain ⟨h1, _⟩ := List.getElem?_eq_some_iff.1 h
    exact ⟨h0, by omega, h⟩
  · cases h
theorem idx_s {α : Type} {l : List α} {i : Int} (h0 : 0 ≤ i) : idx l i = l[i.toNat]? := by unfold idx; rw [if_pos h0]
theorem idx_nat {α : Type} {l : List α} {i : Nat} : idx l (i : Int) = l[i]? := by unfold idx; rw [if_pos (by omega), Int.toNat_natCast]
def sat (s : ByteArray) (n : Int) : Option Int := if 0 ≤ n then (s[n.toNat]?).map fun b => (b.toNat : Int) else none
theorem sat_e {s : ByteArray} {n v : Int} (h : sat s n = some v) : strAt s n = some (.d (.int .u8 v)) := by
  unfold sat at h; unfold strAt
  split at h
  · rename_i h0
    rw [if_pos h0]
    cases hb : s[n.toNat]? with
    | none => rw [hb] at h; cases h
    | some b => rw [hb] at h; cases h; rfl
  · cases h
def Hold (p : Prop) : Prop := p
/-! ### rounds over a list, counted rounds -/
def Rng {α : Type} (l : List α) (i : Int) (tl : List α) : Prop := 0 ≤ i ∧ l.drop i.toNat = tl ∧ i.toNat ≤ l.length ∧ l.length < 4611686018427387904
theorem rng_0 {α : Type} {l : List α} {L : Nat} (h : l.length < L) (hL : L ≤ 4611686018427387904) : Rng l 0 l := ⟨Int.le_refl _, rfl, Nat.zero_le _, by omega⟩
theorem rng_nil {α : Type} {l : List α} {i : Int} (h : Rng l i []) : ¬ i < (l.length : Int) := by
  obtain ⟨h0, h1, h2, h3⟩ := h
  have := congrArg List.length h1
  simp at this
  omega
theorem rng_end {α : Type} {l : List α} {i : Int} (h : Rng l i []) : i = (l.length : Int) := by
  have h4 := rng_nil h
  obtain ⟨h0, h1, h2, h3⟩ := h
  omega
theorem rng_s {α : Type} {l tl : List α} {i : Int} {x : α} (h : Rng l i (x :: tl)) : 0 ≤ i ∧ i < (l.length : Int) ∧ l[i.toNat]? = some x ∧ IntKind.i64.wrap (i + 1) = i + 1 ∧ Rng l (i + 1) tl := by
  obtain ⟨h0, h1, h2, h3⟩ := h
  have hl := congrArg List.length h1
  simp at hl
  have hx : l[i.toNat]? = some x := by
    have := congrArg (fun q => q[0]?) h1
    simpa using this
  have ht : (i + 1).toNat = i.toNat + 1 := by omega
  refine ⟨h0, by omega, hx, IntWalk.i64_in _ (by omega), by omega, ?_, by omega, h3⟩
  rw [ht, ← List.drop_drop, h1]; rfl
def Cnt (n i : Int) (k : Nat) : Prop := 0 ≤ i ∧ (n - i).toNat = k ∧ n < 4611686018427387904
theorem cnt_0 {n i : Int} (h0 : 0 ≤ i) (h : n < 4611686018427387904) : Cnt n i (n - i).toNat := ⟨h0, rfl, h⟩
theorem cnt_00 {n : Int} (h0 : (0 : Int) ≤ 0) (h : n < 4611686018427387904) : Cnt n 0 n.toNat := ⟨h0, by rw [Int.sub_zero], h⟩
theorem cnt_nil {n i : Int} (h : Cnt n i 0) : ¬ i < n := by obtain ⟨h0, h1, h2⟩ := h; omega
theorem cnt_s {n i : Int} {k : Nat} (h : Cnt n i (k + 1)) : 0 ≤ i ∧ i < n ∧ IntKind.i64.wrap (i + 1) = i + 1 ∧ Cnt n (i + 1) k := by
  obtain ⟨h0, h1, h2⟩ := h
  exact ⟨h0, by omega, IntWalk.i64_in _ (by omega), by omega, by omega, h2⟩
/-! ### rows of typed values -/
def rowV {α : Type} (f : α → D) (l : List α) : List V := l.map fun x => V.d (f x)
section
variable {α : Type} (f : α → D)
theorem rowV_len (l : List α) : (rowV f l).length = l.length := by simp [rowV]
theorem rowV_nil : rowV f [] = [] := nr rfl
theorem rowV_cons (x : α) (l : List α) : rowV f (x :: l) = V.d (f x) :: rowV f l := nr rfl
theorem rowV_append (l m : List α) : rowV f (l ++ m) = rowV f l ++ rowV f m := by simp [rowV]
theorem rowV_set (l : List α) (i : Nat) (x : α) : rowV f (l.set i x) = setN (rowV f l) i (V.d (f x)) := by rw [setN_eq, rowV, rowV, List.map_set]
theorem rowV_replicate (n : Nat) (x : α) : rowV f (List.replicate n x) = List.replicate n (V.d (f x)) := by simp [rowV]
theorem nth_row (l : List α) (i : Nat) : nth (rowV f l) i = (l[i]?).map fun x => V.d (f x) := by rw [nth_eq, rowV, List.getElem?_map]
theorem row_take (l : List α) (n : Nat) : (rowV f l).take n = rowV f (l.take n) := by simp [rowV, List.map_take]
theorem row_drop (l : List α) (n : Nat) : (rowV f l).drop n = rowV f (l.drop n) := by simp [rowV, List.map_drop]
theorem toDs_row : ∀ l : List α, V.toD.V.toDs (rowV f l) = some (l.map f)
  | [] => rfl
  | x :: r => by rw [rowV_cons]; simp only [V.toD.V.toDs, V.toD, toDs_row r, List.map_cons]
theorem fin_row (st : Store) (n : Nat) : ∀ l : List α, mapO (V.fin st (n + 1)) (rowV f l) = some (l.map f)
  | [] => rfl
  | x :: r => by rw [rowV_cons]; simp only [mapO, fin_d, fin_row st n r, List.map_cons]
theorem map_row (l : List α) : (l.map f).map V.d = rowV f l := by simp [rowV]
theorem map_take_ (l : List α) (n : Nat) : (l.map f).take n = (l.take n).map f := by simp [List.map_take]
theorem map_drop_ (l : List α) (n : Nat) : (l.map f).drop n = (l.drop n).map f := by simp [List.map_drop]
end
def Bk (b : Blk) (e : TypeId) (vs : List V) : Prop := b.e = e ∧ b.vs = vs ∧ b.live = true
theorem Bk_i (b : Blk) (e : TypeId) (vs : List V) : Bk b e vs = (b.e = e ∧ b.vs = vs ∧ b.live = true) := nr rfl
/-! ### rows that are nil while they are empty -/
def gl (e : TypeId) (k : Key) (ver : Nat) : List V → V
  | [] => .nils e
  | v :: vs => .rs e k ver 0 (vs.length + 1) true
def GlB (b : Blk) (e : TypeId) (vs : List V) : Prop := vs ≠ [] → Bk b e vs
theorem GlB_0 (b : Blk) (e : TypeId) : GlB b e [] = True := eq_true fun h => absurd rfl h
theorem GlB_mk (v : Nat) (e : TypeId) (vs : List V) : GlB ⟨v, e, vs, true⟩ e vs = True := eq_true fun _ => ⟨rfl, rfl, rfl⟩
theorem GlB_of {b : Blk} {e : TypeId} {vs : List V} (h1 : b.e = e) (h2 : b.vs = vs) (h3 : b.live = true) : GlB b e vs := fun _ => ⟨h1, h2, h3⟩
theorem gl_nil (e : TypeId) (k : Key) (ver : Nat) : gl e k ver [] = .nils e := nr rfl
theorem gl_cons (e : TypeId) (k : Key) (ver : Nat) (v : V) (vs : List V) : gl e k ver (v :: vs) = .rs e k ver 0 (vs.length + 1) true := nr rfl
theorem gl_pos {e : TypeId} {k : Key} {ver : Nat} {vs : List V} (h : vs ≠ []) : gl e k ver vs = .rs e k ver 0 vs.length true := by cases vs; exact absurd rfl h; rfl
theorem gl_snoc (e : TypeId) (k : Key) (ver : Nat) (v : V) (ws vs : List V) : gl e k ver (ws ++ v :: vs) = .rs e k ver 0 (ws.length + (vs.length + 1)) true := by
  rw [gl_pos (by simp)]; simp
theorem gl_ne {α : Type} {f : α → D} {l : List α} {i : Nat} {x : α} (h : l[i]? = some x) (e : TypeId) (k : Key) (ver : Nat) : gl e k ver (rowV f l) = .rs e k ver 0 l.length true := by
  have hl : l ≠ [] := by intro h2; subst h2; simp at h
  rw [gl_pos (by simpa [rowV] using hl), rowV_len]
theorem gl_nz {α : Type} {f : α → D} {l : List α} (h : ¬ l.length = 0) (e : TypeId) (k : Key) (ver : Nat) : gl e k ver (rowV f l) = .rs e k ver 0 l.length true := by
  have hl : l ≠ [] := by intro h2; subst h2; exact h rfl
  rw [gl_pos (by simpa [rowV] using hl), rowV_len]
theorem row_nz {α : Type} {f : α → D} {l : List α} (h : ¬ l.length = 0) : rowV f l ≠ [] := by
  intro h2; cases l <;> simp [rowV] at h2 h
theorem gl_setN (e : TypeId) (k : Key) (ver : Nat) (vs : List V) (i : Nat) (x : V) : gl e k ver (setN vs i x) = gl e k ver vs := by
  cases vs with
  | nil => rfl
  | cons v vs => cases i <;> simp [setN, gl, setN_eq]
theorem row_ne {α : Type} {f : α → D} {l : List α} {i : Nat} {x : α} (h : l[i]? = some x) : rowV f l ≠ [] := by
  intro h2; cases l <;> simp [rowV] at h2 h
theorem appendTo_gl {P : Program} {lv : Nat} {d : Tmp} {st : Store} {e : TypeId} {k : Key} {ver : Nat} {vs new : List V} (h1 : (st k).ver = ver) (h2 : GlB (st k) e vs) (h3 : k = (lv, d)) (h4 : lv < 1000000000000000000000000000000)
    (h5 : vs.length + new.length ≤ maxRow) (h6 : (vs.length + new.length) * P.bytesOf e ≤ maxRow) :
    appendTo P lv d st e (gl e k ver vs) new = some (.rs e k (ver + 1) 0 (vs.length + new.length) true, upd st k ⟨ver + 1, e, vs ++ new, true⟩) := by
  subst h3
  cases vs with
  | nil =>
    rw [gl_nil, appendTo_nils, fk_low h4, if_pos ⟨rfl, by simpa using h6⟩, h1]
    simp [newBlk, h1]
  | cons v vs =>
    obtain ⟨g1, g2, g3⟩ := h2 (by simp)
    rw [gl_cons, appendTo_rs, if_pos ⟨h1, g3, rfl, rfl, by rw [g2]; rfl, rfl, h5, h6⟩, g2]
    rfl
theorem consV_gl (e : TypeId) (k : Key) (ver : Nat) (ws vs : List V) : consV (gl e k ver ws) vs = some (gl e k ver ws :: vs) := by cases ws <;> rfl
theorem len_gl (e : TypeId) (k : Key) (ver : Nat) (ws : List V) : lenV (gl e k ver ws) = some ws.length := by cases ws <;> rfl
theorem hasT_gl {P : Program} {t e : TypeId} {k : Key} {ver : Nat} {ws : List V} : hasT P t (gl e k ver ws) = (match tk P t with | .one | .sl _ => true | _ => false) := by cases ws <;> (unfold hasT gl; cases tk P t <;> rfl)
theorem len_glB (P : Program) (t e : TypeId) (k : Key) (ver : Nat) (ws : List V) : evPureB P .len [t] [gl e k ver ws] = (match tk P t with | .sl _ => some (.d (.int .i64 ws.length)) | _ => none) := by
  cases ws <;> (simp only [evPureB, gl, lenV]; cases tk P t <;> rfl)
theorem elems_gl {st : Store} {e : TypeId} {k : Key} {ver : Nat} {vs : List V} (h1 : (st k).ver = ver) (h2 : GlB (st k) e vs) : elemsOf st (gl e k ver vs) = some (e, vs) := by
  cases vs with
  | nil => rfl
  | cons v vs =>
    obtain ⟨g1, g2, g3⟩ := h2 (by simp)
    simp only [gl, elemsOf, g2]
    rw [if_pos ⟨h1, g3, by simp⟩, List.drop_zero, List.take_of_length_le (by simp)]
theorem fin_gl {st : Store} {e : TypeId} {k : Key} {ver n : Nat} {vs : List V} (h1 : (st k).ver = ver) (h2 : GlB (st k) e vs) : V.fin st (n + 1) (gl e k ver vs) = (mapO (V.fin st n) vs).map (D.sl e) := by
  have he := elems_gl h1 h2
  cases vs with
  | nil => rfl
  | cons v vs => simp only [gl] at he ⊢; rw [fin_rs, he]; rfl
theorem view_gl {st : Store} {e : TypeId} {k : Key} {ver : Nat} {vs : List V} (h1 : (st k).ver = ver) (h2 : GlB (st k) e vs) : V.view st (gl e k ver vs) = (V.toD.V.toDs vs).map (D.sl e) := by
  have he := elems_gl h1 h2
  cases vs with
  | nil => rfl
  | cons v vs => simp only [gl] at he ⊢; simp only [V.view, he]
theorem argv_gl (st : Store) (e : TypeId) (k : Key) (ver : Nat) (vs : List V) : V.arg st (gl e k ver vs) = V.view st (gl e k ver vs) := by cases vs <;> rfl
theorem topR_gl (st : Store) (e : TypeId) (k : Key) (ver : Nat) (vs : List V) : topR (some (gl e k ver vs, st)) = oneL (V.fin st 9 (gl e k ver vs)) := by cases vs <;> rfl
/-! ### places -/
def sp : Nat → Nat → List (Nat × V) → List V
  | 0, _, _ => []
  | n + 1, i, [] => .und :: sp n (i + 1) []
  | n + 1, i, (j, v) :: r => if i = j then v :: sp n (i + 1) r else .und :: sp n (i + 1) ((j, v) :: r)
theorem sp_z (i : Nat) (r : List (Nat × V)) : sp 0 i r = [] := nr rfl
theorem sp_0 (n i : Nat) : sp (n + 1) i [] = .und :: sp n (i + 1) [] := nr rfl
theorem sp_s (n i j : Nat) (v : V) (r : List (Nat × V)) : sp (n + 1) i ((j, v) :: r) = if i = j then v :: sp n (i + 1) r else .und :: sp n (i + 1) ((j, v) :: r) := nr rfl
/-- A mask by the places that are kept. -/
def mb : Nat → Nat → List Nat → List Bool
  | 0, _, _ => []
  | n + 1, i, [] => false :: mb n (i + 1) []
  | n + 1, i, j :: r => if i = j then true :: mb n (i + 1) r else false :: mb n (i + 1) (j :: r)
def km : Nat → Nat → List Nat → List V → List V
  | 0, _, _, vs => vs
  | n + 1, i, _, [] => []
  | n + 1, i, [], v :: vs => .und :: km n (i + 1) [] vs
  | n + 1, i, j :: r, v :: vs => if i = j then v :: km n (i + 1) r vs else .und :: km n (i + 1) (j :: r) vs
theorem mask_mb : ∀ (n i : Nat) (js : List Nat) (vs : List V), mask (mb n i js) vs = km n i js vs
  | 0, _, _, vs => by simp [mb, mask, km]
  | n + 1, i, [], [] => rfl
  | n + 1, i, j :: r, [] => by
    simp only [mb, km]; split <;> rfl
  | n + 1, i, [], v :: vs => by simp only [mb, mask, km, mask_mb n]
  | n + 1, i, j :: r, v :: vs => by
    simp only [mb, km]
    split <;> simp only [mask, mask_mb n]
theorem km_z (i : Nat) (js : List Nat) (vs : List V) : km 0 i js vs = vs := nr rfl
theorem km_0 (n i : Nat) (v : V) (vs : List V) : km (n + 1) i [] (v :: vs) = .und :: km n (i + 1) [] vs := nr rfl
theorem km_s (n i j : Nat) (r : List Nat) (v : V) (vs : List V) : km (n + 1) i (j :: r) (v :: vs) = if i = j then v :: km n (i + 1) r vs else .und :: km n (i + 1) (j :: r) vs := nr rfl
/-! ### contracts of partial functions -/
noncomputable def specP {α β : Type} (c : CodL α) (p : α → Option β) (res : β → List D) : Spec := specC c (fun x => (p x).isSome = true) fun x => match p x with | some r => res r | none => []
theorem specP_run {α β : Type} (c : CodL α) (p : α → Option β) (res : β → List D) (x : α) : (specP c p res).run (c.e x) = (p x).map res := by
  cases h : p x with
  | some r => unfold specP; rw [specC_run _ _ _ x (by rw [h]; rfl)]; simp only [h]; rfl
  | none =>
    cases h2 : (specP c p res).run (c.e x) with
    | none => rfl
    | some rs =>
      unfold specP specC at h2
      obtain ⟨y, h3, h4, _⟩ := mkSpec_inv h2
      have := c.inj _ _ h3
      subst this
      rw [h] at h4; cases h4
theorem specP_ok {P : Program} {Γ : Specs} {T : Table} {f : FuncId} {α β : Type} {c : CodL α} {p : α → Option β} {res : β → List D} (hm : P.follows .mixedOrders = true) (hΓ : ∀ g s, look Γ g = some s → SpecOk P g s) (hT : TableOk P (Γ.map (·.1)) T)
    (h : ∀ x r, p x = some r → ∃ L n, evTop P Γ T L n f (c.e x) = some (res r)) : SpecOk P f (specP c p res) := specC_ok hm hΓ hT fun x hp => by
  cases hx : p x with
  | none => rw [hx] at hp; cases hp
  | some r => exact h x r hx
def bodyN (fn : Func) : Code := match fn.body with | some c => c | none => .skip
theorem beq_toList (a b : ByteArray) : (a.toList == b.toList) = decide (a = b) := by
  have h : a.toList = b.toList ↔ a = b := by
    constructor
    · intro h
      rw [ByteArray.toList_eq, ByteArray.toList_eq] at h
      cases a; cases b
      simp only at h
      congr
      exact Array.toList_inj.1 h
    · intro h; rw [h]
  by_cases c : a = b
  · rw [decide_eq_true c, c]; simp
  · rw [decide_eq_false c]
    simp only [beq_eq_false_iff_ne, ne_eq]
    exact fun e => c (h.1 e)
theorem le_maxRow {n : Nat} (h : n ≤ 1000000) : (n ≤ maxRow) = True := eq_true (by unfold maxRow; omega)
theorem bq_t (b : Bool) : (b == true) = b := by cases b <;> rfl
theorem bq_f (b : Bool) : (b == false) = !b := by cases b <;> rfl
theorem nc0 : ((0 : Nat) : Int) = 0 := nr rfl
end Go.Ev
namespace Go.Ev
section
variable {α β : Type} {G : Prop} {r : β}
theorem rq_i {c : Prop} [Decidable c] {k : Option β} (h : c → k = some r → G) : rq c k = some r → G := fun q => h (rq_e q).1 (rq_e q).2
theorem ite_i {c : Prop} [Decidable c] {x y : Option β} (h1 : c → x = some r → G) (h2 : ¬ c → y = some r → G) : (if c then x else y) = some r → G := fun q => (ite_e q).elim (fun z => h1 z.1 z.2) fun z => h2 z.1 z.2
theorem cb_i {b : Bool} {x y : Option β} (h1 : b = true → x = some r → G) (h2 : b = false → y = some r → G) : cb b x y = some r → G := fun q => (cb_e q).elim (fun z => h1 z.1 z.2) fun z => h2 z.1 z.2
theorem bnd_i {x : Option α} {f : α → Option β} (h : ∀ v, x = some v → f v = some r → G) : bnd x f = some r → G := fun q => by obtain ⟨v, h1, h2⟩ := bnd_e q; exact h v h1 h2
theorem idx_i {l : List α} {i : Int} {f : α → Option β} (h : ∀ v, 0 ≤ i → i < (l.length : Int) → l[i.toNat]? = some v → f v = some r → G) : bnd (idx l i) f = some r → G := fun q => by
  obtain ⟨v, h1, h2⟩ := bnd_e q
  obtain ⟨g1, g2, g3⟩ := idx_e h1
  exact h v g1 g2 g3 h2
theorem sat_i {s : ByteArray} {i : Int} {f : Int → Option β} (h : ∀ v, strAt s i = some (.d (.int .u8 v)) → f v = some r → G) : bnd (sat s i) f = some r → G := fun q => by
  obtain ⟨v, h1, h2⟩ := bnd_e q
  exact h v (sat_e h1) h2
end
end Go.Ev
namespace Go.Ev
section
variable (P : Program) (t e : TypeId) (st : Store)
def tkOne (P : Program) (t : TypeId) : Bool := match tk P t with | .one | .sl _ => true | _ => false
theorem tkOne_i : tkOne P t = (match tk P t with | .one | .sl _ => true | _ => false) := nr rfl
theorem hT_agg (t' : TypeId) (ds : List D) : hasT P t (.d (.agg t' ds)) = (t' == t && (match tk P t with | .agg _ _ => true | _ => false)) := nr rfl
theorem hT_vagg (t' : TypeId) (vs : List V) : hasT P t (.agg t' vs) = (t' == t && (match tk P t with | .agg _ _ => true | _ => false)) := nr rfl
theorem hT_int (k : IntKind) (n : Int) : hasT P t (.d (.int k n)) = tkOne P t := nr rfl
theorem hT_bool (b : Bool) : hasT P t (.d (.bool b)) = tkOne P t := nr rfl
theorem hT_str (s : ByteArray) : hasT P t (.d (.str s)) = tkOne P t := nr rfl
theorem hT_sl (ds : List D) : hasT P t (.d (.sl e ds)) = tkOne P t := nr rfl
theorem hT_ptr (x : D) : hasT P t (.d (.ptr x)) = tkOne P t := nr rfl
theorem hT_np : hasT P t (.d .np) = tkOne P t := nr rfl
theorem hT_p (k : Key) (ver i : Nat) (path : List (TypeId × Nat)) : hasT P t (.p k ver i path) = tkOne P t := nr rfl
theorem hT_rs (k : Key) (ver off len : Nat) (full : Bool) : hasT P t (.rs e k ver off len full) = tkOne P t := nr rfl
theorem hT_mp (k : Key) (ver : Nat) : hasT P t (.mp k ver) = tkOne P t := nr rfl
theorem hT_nils : hasT P t (.nils e) = tkOne P t := nr rfl
theorem hT_fn (f : FuncId) (c : List V) : hasT P t (.fn f c) = tkOne P t := nr rfl
theorem hT_jk : hasT P t .jk = tkOne P t := nr rfl
theorem hT_gl (k : Key) (ver : Nat) (ws : List V) : hasT P t (gl e k ver ws) = tkOne P t := by cases ws <;> rfl
theorem allD_gl (k : Key) (ver : Nat) (ws r : List V) : allD (gl e k ver ws :: r) = none := by cases ws <;> rfl
theorem eO_sl (ds : List D) : elemsOf st (.d (.sl e ds)) = some (e, ds.map V.d) := nr rfl
theorem eO_nils : elemsOf st (.nils e) = some (e, []) := nr rfl
theorem eO_rs (k : Key) (ver off len : Nat) (full : Bool) : elemsOf st (.rs e k ver off len full) = if (st k).ver = ver ∧ (st k).live = true ∧ off + len ≤ (st k).vs.length then some (e, ((st k).vs.drop off).take len) else none := nr rfl
theorem eT_sl (ds : List D) : elemT (.d (.sl e ds)) = some e := nr rfl
theorem eT_rs (k : Key) (ver off len : Nat) (full : Bool) : elemT (.rs e k ver off len full) = some e := nr rfl
theorem pL_str (s : ByteArray) : evPureB P .len [t] [.d (.str s)] = if ek P t = .str then some (.d (.int .i64 s.size)) else none := nr rfl
theorem pL_sl (ds : List D) : evPureB P .len [t] [.d (.sl e ds)] = (match tk P t with | .sl _ => some (.d (.int .i64 ds.length)) | _ => none) := by simp only [evPureB, lenV]; cases tk P t <;> rfl
theorem pL_rs (k : Key) (ver off len : Nat) (full : Bool) : evPureB P .len [t] [.rs e k ver off len full] = (match tk P t with | .sl _ => some (.d (.int .i64 len)) | _ => none) := by simp only [evPureB, lenV]; cases tk P t <;> rfl
theorem pL_nils : evPureB P .len [t] [.nils e] = (match tk P t with | .sl _ => some (.d (.int .i64 0)) | _ => none) := by simp only [evPureB, lenV]; cases tk P t <;> rfl
theorem pL_min (ts : List TypeId) (k : IntKind) (a : Int) (r : List V) : evPureB P .min ts (.d (.int k a) :: r) = foldI minI k r (some a) := nr rfl
theorem pL_max (ts : List TypeId) (k : IntKind) (a : Int) (r : List V) : evPureB P .max ts (.d (.int k a) :: r) = foldI maxI k r (some a) := nr rfl
theorem noTup_gl (k : Key) (ver : Nat) (ws r : List V) : noTup (gl e k ver ws :: r) = noTup r := by cases ws <;> rfl
end
end Go.Ev
namespace Go.Ev
/-! ### rows that are turned to data -/
section
variable (st0 st : Store) (lv : Nat) (K : List Bool)
theorem frzO_n (m : List Bool) (env : List V) : frzO lv m K (some (.normal, env, st)) = (match frzL st lv K m env st with | some st' => some (.normal, env, killL lv K 0 st') | none => none) := nr rfl
theorem frzO_e (m : List Bool) (i : Nat) (env : List V) : frzO lv m K (some (.exit i, env, st)) = some (.exit i, env, st) := nr rfl
theorem frzO_r (m : List Bool) (env : List V) : frzO lv m K (some (.ret, env, st)) = some (.ret, env, st) := nr rfl
theorem frzO_0 (m : List Bool) : frzO lv m K none = none := nr rfl
theorem mb_z (i : Nat) (js : List Nat) : mb 0 i js = [] := nr rfl
theorem mb_0 (n i : Nat) : mb (n + 1) i [] = false :: mb n (i + 1) [] := nr rfl
theorem mb_s (n i j : Nat) (r : List Nat) : mb (n + 1) i (j :: r) = if i = j then true :: mb n (i + 1) r else false :: mb n (i + 1) (j :: r) := nr rfl
theorem frzL_t (m : List Bool) (v : V) (vs : List V) : frzL st0 lv K (true :: m) (v :: vs) st = (match frzT st0 st lv K v with | some st' => frzL st0 lv K m vs st' | none => none) := nr rfl
theorem frzL_f (m : List Bool) (v : V) (vs : List V) : frzL st0 lv K (false :: m) (v :: vs) st = frzL st0 lv K m vs st := nr rfl
theorem frzL_0 (vs : List V) : frzL st0 lv K [] vs st = some st := nr rfl
theorem frzT_nils (e : TypeId) : frzT st0 st lv K (.nils e) = some st := nr rfl
theorem frzT_rs (e : TypeId) (k : Key) (ver off len : Nat) (full : Bool) : frzT st0 st lv K (.rs e k ver off len full) = if (st0 k).ver = ver then frzK st0 st lv K k else none := nr rfl
theorem frzT_p (k : Key) (ver i : Nat) (path : List (TypeId × Nat)) : frzT st0 st lv K (.p k ver i path) = if (st0 k).ver = ver then frzK st0 st lv K k else none := nr rfl
theorem frzK_i (k : Key) : frzK st0 st lv K k = if (st0 k).live = true ∧ keyIn lv K k = false ∧ refsIn.refsIns lv K (st0 k).vs = true then (match V.view.views st0 (st0 k).vs with | some ds => some (upd st k ⟨(st0 k).ver, (st0 k).e, ds.map V.d, true⟩) | none => none) else none := nr rfl
theorem keyIn_i (a d : Nat) : keyIn lv K (a, d) = (a == lv && K.getD d false) := nr rfl
theorem rI_nil : refsIn.refsIns lv K [] = true := nr rfl
theorem rI_cons (v : V) (vs : List V) : refsIn.refsIns lv K (v :: vs) = (refsIn lv K v && refsIn.refsIns lv K vs) := nr rfl
theorem rI_row {α : Type} (f : α → D) : ∀ l : List α, refsIn.refsIns lv K (rowV f l) = true
  | [] => rfl
  | x :: r => by rw [rowV_cons, rI_cons, rI_row f r]; rfl
theorem rI_app : ∀ a b : List V, refsIn.refsIns lv K (a ++ b) = (refsIn.refsIns lv K a && refsIn.refsIns lv K b)
  | [], b => by simp [refsIn.refsIns]
  | x :: r, b => by rw [List.cons_append, rI_cons, rI_cons, rI_app r b, Bool.and_assoc]
theorem r_d (x : D) : refsIn lv K (.d x) = true := nr rfl
theorem r_nils (e : TypeId) : refsIn lv K (.nils e) = true := nr rfl
theorem r_agg (t : TypeId) (vs : List V) : refsIn lv K (.agg t vs) = refsIn.refsIns lv K vs := nr rfl
theorem r_rs (e : TypeId) (k : Key) (ver off len : Nat) (full : Bool) : refsIn lv K (.rs e k ver off len full) = keyIn lv K k := nr rfl
theorem r_gl {e : TypeId} {k : Key} {ver : Nat} {ws : List V} (h : keyIn lv K k = true) : refsIn lv K (gl e k ver ws) = true := by cases ws with
  | nil => rfl
  | cons v vs => exact h
theorem vw_row {α : Type} (f : α → D) : ∀ l : List α, V.view.views st (rowV f l) = some (l.map f)
  | [] => rfl
  | x :: r => by rw [rowV_cons]; simp only [V.view.views, V.view, vw_row f r, List.map_cons]
def appO {α : Type} : Option (List α) → Option (List α) → Option (List α)
  | some a, some b => some (a ++ b)
  | _, _ => none
theorem appO_s {α : Type} (a b : List α) : appO (some a) (some b) = some (a ++ b) := nr rfl
theorem vw_app : ∀ a b : List V, V.view.views st (a ++ b) = appO (V.view.views st a) (V.view.views st b)
  | [], b => by
    rw [List.nil_append]
    show _ = appO (some []) (V.view.views st b)
    cases V.view.views st b <;> rfl
  | x :: r, b => by
    rw [List.cons_append]
    simp only [V.view.views, vw_app r b]
    cases V.view st x <;> cases V.view.views st r <;> cases V.view.views st b <;> rfl
end
theorem frzT_gl {st : Store} {lv : Nat} {K : List Bool} {e : TypeId} {k : Key} {ver : Nat} {α : Type} {f : α → D} {l : List α} (h1 : (st k).ver = ver) (h2 : GlB (st k) e (rowV f l)) (h3 : keyIn lv K k = false) : frzT st st lv K (gl e k ver (rowV f l)) = some st := by
  by_cases hl : l = []
  · subst hl; rfl
  · obtain ⟨g1, g2, g3⟩ := h2 (by simpa [rowV] using hl)
    rw [gl_pos (by simpa [rowV] using hl), frzT_rs, if_pos h1, frzK_i, if_pos ⟨g3, h3, by rw [g2, rI_row]⟩, g2, vw_row]
    simp only
    congr 1
    funext j
    unfold upd
    cases hq : keq j k
    · rfl
    · have : j = k := by unfold keq at hq; simp only [Bool.and_eq_true, beq_iff_eq] at hq; exact Prod.ext hq.1 hq.2
      subst this
      rw [map_row, ← g2]
      show (⟨(st j).ver, (st j).e, (st j).vs, true⟩ : Blk) = st j
      rw [← g3]
end Go.Ev
namespace Go.Ev
/-! ### reading data back, pointers to data -/
def cP {α : Type} (c : Cod α) : Cod α := ⟨fun x => .ptr (c.e x), fun x y h => by
  simp only [D.ptr.injEq] at h
  exact c.inj _ _ h⟩
structure Dec {α : Type} (c : Cod α) where
  f : D → Option α
  ok : ∀ x y, f x = some y → c.e y = x
structure DecL {α : Type} (c : CodL α) where
  f : List D → Option α
  ok : ∀ x y, f x = some y → c.e y = x
def dI (k : IntKind) : Dec (cI k) := ⟨fun x => match x with | .int k' n => if k = k' then some n else none | _ => none, fun x y h => by
  cases x <;> simp only [reduceCtorEq] at h
  split at h
  · rename_i hk; cases h; subst hk; rfl
  · cases h⟩
def dB : Dec cB := ⟨fun x => match x with | .bool b => some b | _ => none, fun x y h => by
  cases x <;> simp only [reduceCtorEq] at h
  cases h; rfl⟩
def dS : Dec cS := ⟨fun x => match x with | .str s => some s | _ => none, fun x y h => by
  cases x <;> simp only [reduceCtorEq] at h
  cases h; rfl⟩
def decMap {α : Type} (f : D → Option α) : List D → Option (List α)
  | [] => some []
  | x :: r => match f x, decMap f r with
    | some y, some l => some (y :: l)
    | _, _ => none
theorem decMap_ok {α : Type} {c : Cod α} (d : Dec c) : ∀ (xs : List D) (l : List α), decMap d.f xs = some l → l.map c.e = xs
  | [], l, h => by cases h; rfl
  | x :: r, l, h => by
    simp only [decMap] at h
    split at h
    · rename_i y q h1 h2
      cases h
      rw [List.map_cons, d.ok _ _ h1, decMap_ok d r q h2]
    · cases h
def dL {α : Type} (t : TypeId) {c : Cod α} (d : Dec c) : Dec (cL t c) := ⟨fun x => match x with | .sl t' xs => if t = t' then decMap d.f xs else none | _ => none, fun x y h => by
  cases x <;> simp only [reduceCtorEq] at h
  split at h
  · rename_i hk; subst hk; exact congrArg (D.sl t) (decMap_ok d _ _ h)
  · cases h⟩
def dA {α : Type} (t : TypeId) {c : CodL α} (d : DecL c) : Dec (cA t c) := ⟨fun x => match x with | .agg t' xs => if t = t' then d.f xs else none | _ => none, fun x y h => by
  cases x <;> simp only [reduceCtorEq] at h
  split at h
  · rename_i hk; subst hk; exact congrArg (D.agg t) (d.ok _ _ h)
  · cases h⟩
def dP {α : Type} {c : Cod α} (d : Dec c) : Dec (cP c) := ⟨fun x => match x with | .ptr x => d.f x | _ => none, fun x y h => by
  cases x <;> simp only [reduceCtorEq] at h
  exact congrArg D.ptr (d.ok _ _ h)⟩
def dNil : DecL cNil := ⟨fun x => match x with | [] => some () | _ => none, fun x y h => by
  cases x <;> simp only [reduceCtorEq] at h
  rfl⟩
def dCons {α β : Type} {c : Cod α} {r : CodL β} (d : Dec c) (e : DecL r) : DecL (cCons c r) := ⟨fun x => match x with
  | x :: xs => (match d.f x, e.f xs with | some y, some z => some (y, z) | _, _ => none)
  | [] => none, fun x y h => by
  cases x with
  | nil => cases h
  | cons x xs =>
    simp only at h
    split at h
    · rename_i y z h1 h2
      cases h
      show c.e _ :: r.e _ = _
      rw [d.ok _ _ h1, e.ok _ _ h2]
    · cases h⟩
def specK {α β : Type} {c : CodL α} (d : DecL c) (p : α → Option β) (res : β → List D) : Spec := ⟨fun xs => match d.f xs with
  | some x => (match p x with | some r => some (res r) | none => none)
  | none => none⟩
theorem specK_ok {P : Program} {Γ : Specs} {T : Table} {f : FuncId} {α β : Type} {c : CodL α} (d : DecL c) {p : α → Option β} {res : β → List D} (hm : P.follows .mixedOrders = true) (hΓ : ∀ g s, look Γ g = some s → SpecOk P g s) (hT : TableOk P (Γ.map (·.1)) T)
    (h : ∀ x r, p x = some r → ∃ L n, evTop P Γ T L n f (c.e x) = some (res r)) : SpecOk P f (specK d p res) := spec_of_ev hm hΓ hT fun xs rs hr => by
  simp only [specK] at hr
  split at hr
  · rename_i x hx
    split at hr
    · rename_i r hp
      cases hr
      rw [← d.ok _ _ hx]
      exact h x r hp
    · cases hr
  · cases hr
end Go.Ev
end
section
set_option linter.unusedVariables false
set_option linter.unusedSimpArgs false
namespace Go.Pl
open Go.Ev Go.IntKind
theorem w64 {x : Int} (h : -9223372036854775808 ≤ x ∧ x < 9223372036854775808) : i64.wrap x = x := IntWalk.i64_in _ (by omega)
theorem maxRow_v : maxRow = 140737488355328 := rfl
theorem idx_app {α : Type} (p : List α) (x : α) (s : List α) : idx (p ++ x :: s) (p.length : Int) = some x := by rw [idx_nat]; simp
theorem idx_at {α : Type} {l : List α} {i : Nat} (h : i < l.length) : idx l (i : Int) = some l[i] := by rw [idx_nat]; simp [h]
theorem idx_z {α : Type} (x : α) (s : List α) : idx (x :: s) 0 = some x := rfl
theorem ite_t {c : Prop} [Decidable c] {α : Type} {a b : α} (h : c) : (if c then a else b) = a := if_pos h
theorem ite_f {c : Prop} [Decidable c] {α : Type} {a b : α} (h : ¬ c) : (if c then a else b) = b := if_neg h
theorem cb_d {p : Prop} [Decidable p] {α : Type} (x y : Option α) : cb (decide p) x y = if p then x else y := by
  by_cases h : p
  · rw [decide_eq_true h, cb_t, if_pos h]
  · rw [decide_eq_false h, cb_f, if_neg h]
theorem cb_n {b : Bool} {α : Type} (x y : Option α) : cb (!b) x y = cb b y x := by cases b <;> rfl
theorem cb_v {b : Bool} {α : Type} (x y : Option α) : cb b x y = if b = true then x else y := by cases b <;> rfl
theorem min_v (a b : Int) : minI a b = min a b := by unfold minI; split <;> omega
theorem max_v (a b : Int) : maxI a b = max a b := by unfold maxI; split <;> omega
end Go.Pl
end
section
set_option linter.unusedVariables false
set_option linter.unusedSimpArgs false
set_option maxRecDepth 100000
namespace Go.Proofs.Ytnojehmbiceceaa.Ty
open Go.Ev
theorem tk2 : tk Try.prog 2 = .one := by kernel_rfl
theorem ik2 : intK Try.prog 2 = some .i64 := by kernel_rfl
theorem ek2 : ek Try.prog 2 = .int := by kernel_rfl
theorem zv2 : zeroV Try.prog 2 = some (.d (.int .i64 0)) := by kernel_rfl
theorem by2 : Try.prog.bytesOf 2 = 8 := by kernel_rfl
theorem so2 : szOf Try.prog 2 = 1 := by kernel_rfl
theorem tk3 : tk Try.prog 3 = .one := by kernel_rfl
theorem ik3 : intK Try.prog 3 = some .i64 := by kernel_rfl
theorem ek3 : ek Try.prog 3 = .int := by kernel_rfl
theorem zv3 : zeroV Try.prog 3 = some (.d (.int .i64 0)) := by kernel_rfl
theorem by3 : Try.prog.bytesOf 3 = 8 := by kernel_rfl
theorem so3 : szOf Try.prog 3 = 1 := by kernel_rfl
theorem tk4 : tk Try.prog 4 = .one := by kernel_rfl
theorem ub4 : Try.prog.underlying 4 = some .bool := by kernel_rfl
theorem ek4 : ek Try.prog 4 = .bool := by kernel_rfl
theorem zv4 : zeroV Try.prog 4 = some (.d (.bool false)) := by kernel_rfl
theorem by4 : Try.prog.bytesOf 4 = 1 := by kernel_rfl
theorem so4 : szOf Try.prog 4 = 1 := by kernel_rfl
theorem tk5 : tk Try.prog 5 = .one := by kernel_rfl
theorem ik5 : intK Try.prog 5 = some .u8 := by kernel_rfl
theorem ek5 : ek Try.prog 5 = .int := by kernel_rfl
theorem zv5 : zeroV Try.prog 5 = some (.d (.int .u8 0)) := by kernel_rfl
theorem by5 : Try.prog.bytesOf 5 = 1 := by kernel_rfl
theorem so5 : szOf Try.prog 5 = 1 := by kernel_rfl
theorem tk9 : tk Try.prog 9 = .one := by kernel_rfl
theorem ek9 : ek Try.prog 9 = .str := by kernel_rfl
theorem by9 : Try.prog.bytesOf 9 = 16 := by kernel_rfl
theorem so9 : szOf Try.prog 9 = 1 := by kernel_rfl
theorem tk20 : tk Try.prog 20 = .one := by kernel_rfl
theorem by20 : Try.prog.bytesOf 20 = 16 := by kernel_rfl
theorem so20 : szOf Try.prog 20 = 1 := by kernel_rfl
theorem tk22 : tk Try.prog 22 = .sl 3 := by kernel_rfl
theorem zv22 : zeroV Try.prog 22 = some (.nils 3) := by kernel_rfl
theorem by22 : Try.prog.bytesOf 22 = 24 := by kernel_rfl
theorem so22 : szOf Try.prog 22 = 1 := by kernel_rfl
theorem tk23 : tk Try.prog 23 = .sl 32 := by kernel_rfl
theorem zv23 : zeroV Try.prog 23 = some (.nils 32) := by kernel_rfl
theorem by23 : Try.prog.bytesOf 23 = 24 := by kernel_rfl
theorem so23 : szOf Try.prog 23 = 1 := by kernel_rfl
theorem tk24 : tk Try.prog 24 = .one := by kernel_rfl
theorem ik24 : intK Try.prog 24 = some .i64 := by kernel_rfl
theorem ek24 : ek Try.prog 24 = .int := by kernel_rfl
theorem zv24 : zeroV Try.prog 24 = some (.d (.int .i64 0)) := by kernel_rfl
theorem by24 : Try.prog.bytesOf 24 = 8 := by kernel_rfl
theorem so24 : szOf Try.prog 24 = 1 := by kernel_rfl
theorem tk27 : tk Try.prog 27 = .one := by kernel_rfl
theorem ik27 : intK Try.prog 27 = some .i64 := by kernel_rfl
theorem ek27 : ek Try.prog 27 = .int := by kernel_rfl
theorem zv27 : zeroV Try.prog 27 = some (.d (.int .i64 0)) := by kernel_rfl
theorem by27 : Try.prog.bytesOf 27 = 8 := by kernel_rfl
theorem so27 : szOf Try.prog 27 = 1 := by kernel_rfl
theorem tk32 : tk Try.prog 32 = .one := by kernel_rfl
theorem ik32 : intK Try.prog 32 = some .i64 := by kernel_rfl
theorem ek32 : ek Try.prog 32 = .int := by kernel_rfl
theorem zv32 : zeroV Try.prog 32 = some (.d (.int .i64 0)) := by kernel_rfl
theorem by32 : Try.prog.bytesOf 32 = 8 := by kernel_rfl
theorem so32 : szOf Try.prog 32 = 1 := by kernel_rfl
theorem tk35 : tk Try.prog 35 = .agg 3 false := by kernel_rfl
theorem ct35 : compTs Try.prog 35 = [24, 24, 4] := by kernel_rfl
theorem ek35 : ek Try.prog 35 = .agg := by kernel_rfl
theorem zv35 : zeroV Try.prog 35 = some (.d (.agg 35 [.int .i64 0, .int .i64 0, .bool false])) := by kernel_rfl
theorem by35 : Try.prog.bytesOf 35 = 24 := by kernel_rfl
theorem so35 : szOf Try.prog 35 = 3 := by kernel_rfl
theorem tk37 : tk Try.prog 37 = .agg 3 false := by kernel_rfl
theorem ct37 : compTs Try.prog 37 = [32, 32, 4] := by kernel_rfl
theorem ek37 : ek Try.prog 37 = .agg := by kernel_rfl
theorem zv37 : zeroV Try.prog 37 = some (.d (.agg 37 [.int .i64 0, .int .i64 0, .bool false])) := by kernel_rfl
theorem by37 : Try.prog.bytesOf 37 = 24 := by kernel_rfl
theorem so37 : szOf Try.prog 37 = 3 := by kernel_rfl
theorem tk38 : tk Try.prog 38 = .one := by kernel_rfl
theorem ik38 : intK Try.prog 38 = some .i64 := by kernel_rfl
theorem ek38 : ek Try.prog 38 = .int := by kernel_rfl
theorem zv38 : zeroV Try.prog 38 = some (.d (.int .i64 0)) := by kernel_rfl
theorem by38 : Try.prog.bytesOf 38 = 8 := by kernel_rfl
theorem so38 : szOf Try.prog 38 = 1 := by kernel_rfl
theorem tk40 : tk Try.prog 40 = .agg 3 false := by kernel_rfl
theorem ct40 : compTs Try.prog 40 = [38, 38, 4] := by kernel_rfl
theorem ek40 : ek Try.prog 40 = .agg := by kernel_rfl
theorem zv40 : zeroV Try.prog 40 = some (.d (.agg 40 [.int .i64 0, .int .i64 0, .bool false])) := by kernel_rfl
theorem by40 : Try.prog.bytesOf 40 = 24 := by kernel_rfl
theorem so40 : szOf Try.prog 40 = 3 := by kernel_rfl
theorem tk43 : tk Try.prog 43 = .sl 35 := by kernel_rfl
theorem zv43 : zeroV Try.prog 43 = some (.nils 35) := by kernel_rfl
theorem by43 : Try.prog.bytesOf 43 = 24 := by kernel_rfl
theorem so43 : szOf Try.prog 43 = 1 := by kernel_rfl
theorem tk45 : tk Try.prog 45 = .agg 3 false := by kernel_rfl
theorem ct45 : compTs Try.prog 45 = [3, 3, 43] := by kernel_rfl
theorem zv45 : zeroV Try.prog 45 = some (.agg 45 [.d (.int .i64 0), .d (.int .i64 0), .nils 35]) := by kernel_rfl
theorem by45 : Try.prog.bytesOf 45 = 40 := by kernel_rfl
theorem so45 : szOf Try.prog 45 = 3 := by kernel_rfl
theorem tk62 : tk Try.prog 62 = .one := by kernel_rfl
theorem ik62 : intK Try.prog 62 = some .i64 := by kernel_rfl
theorem ek62 : ek Try.prog 62 = .int := by kernel_rfl
theorem zv62 : zeroV Try.prog 62 = some (.d (.int .i64 0)) := by kernel_rfl
theorem by62 : Try.prog.bytesOf 62 = 8 := by kernel_rfl
theorem so62 : szOf Try.prog 62 = 1 := by kernel_rfl
theorem tk64 : tk Try.prog 64 = .agg 3 false := by kernel_rfl
theorem ct64 : compTs Try.prog 64 = [62, 62, 4] := by kernel_rfl
theorem ek64 : ek Try.prog 64 = .agg := by kernel_rfl
theorem zv64 : zeroV Try.prog 64 = some (.d (.agg 64 [.int .i64 0, .int .i64 0, .bool false])) := by kernel_rfl
theorem by64 : Try.prog.bytesOf 64 = 24 := by kernel_rfl
theorem so64 : szOf Try.prog 64 = 3 := by kernel_rfl
theorem tk66 : tk Try.prog 66 = .agg 3 false := by kernel_rfl
theorem ct66 : compTs Try.prog 66 = [64, 64, 64] := by kernel_rfl
theorem ek66 : ek Try.prog 66 = .agg := by kernel_rfl
theorem zv66 : zeroV Try.prog 66 = some (.d (.agg 66 [.agg 64 [.int .i64 0, .int .i64 0, .bool false], .agg 64 [.int .i64 0, .int .i64 0, .bool false], .agg 64 [.int .i64 0, .int .i64 0, .bool false]])) := by kernel_rfl
theorem by66 : Try.prog.bytesOf 66 = 72 := by kernel_rfl
theorem so66 : szOf Try.prog 66 = 9 := by kernel_rfl
theorem tk67 : tk Try.prog 67 = .one := by kernel_rfl
theorem ik67 : intK Try.prog 67 = some .i64 := by kernel_rfl
theorem ek67 : ek Try.prog 67 = .int := by kernel_rfl
theorem zv67 : zeroV Try.prog 67 = some (.d (.int .i64 0)) := by kernel_rfl
theorem by67 : Try.prog.bytesOf 67 = 8 := by kernel_rfl
theorem so67 : szOf Try.prog 67 = 1 := by kernel_rfl
theorem tk70 : tk Try.prog 70 = .sl 89 := by kernel_rfl
theorem zv70 : zeroV Try.prog 70 = some (.nils 89) := by kernel_rfl
theorem by70 : Try.prog.bytesOf 70 = 24 := by kernel_rfl
theorem so70 : szOf Try.prog 70 = 1 := by kernel_rfl
theorem tk71 : tk Try.prog 71 = .sl 167 := by kernel_rfl
theorem zv71 : zeroV Try.prog 71 = some (.nils 167) := by kernel_rfl
theorem by71 : Try.prog.bytesOf 71 = 24 := by kernel_rfl
theorem so71 : szOf Try.prog 71 = 1 := by kernel_rfl
theorem tk72 : tk Try.prog 72 = .one := by kernel_rfl
theorem ik72 : intK Try.prog 72 = some .i64 := by kernel_rfl
theorem ek72 : ek Try.prog 72 = .int := by kernel_rfl
theorem zv72 : zeroV Try.prog 72 = some (.d (.int .i64 0)) := by kernel_rfl
theorem by72 : Try.prog.bytesOf 72 = 8 := by kernel_rfl
theorem so72 : szOf Try.prog 72 = 1 := by kernel_rfl
theorem tk74 : tk Try.prog 74 = .agg 5 false := by kernel_rfl
theorem ct74 : compTs Try.prog 74 = [71, 72, 72, 24, 3] := by kernel_rfl
theorem zv74 : zeroV Try.prog 74 = some (.agg 74 [.nils 167, .d (.int .i64 0), .d (.int .i64 0), .d (.int .i64 0), .d (.int .i64 0)]) := by kernel_rfl
theorem by74 : Try.prog.bytesOf 74 = 56 := by kernel_rfl
theorem so74 : szOf Try.prog 74 = 5 := by kernel_rfl
theorem tk75 : tk Try.prog 75 = .sl 81 := by kernel_rfl
theorem zv75 : zeroV Try.prog 75 = some (.nils 81) := by kernel_rfl
theorem by75 : Try.prog.bytesOf 75 = 24 := by kernel_rfl
theorem so75 : szOf Try.prog 75 = 1 := by kernel_rfl
theorem tk81 : tk Try.prog 81 = .agg 2 false := by kernel_rfl
theorem ct81 : compTs Try.prog 81 = [3, 3] := by kernel_rfl
theorem ek81 : ek Try.prog 81 = .agg := by kernel_rfl
theorem zv81 : zeroV Try.prog 81 = some (.d (.agg 81 [.int .i64 0, .int .i64 0])) := by kernel_rfl
theorem by81 : Try.prog.bytesOf 81 = 16 := by kernel_rfl
theorem so81 : szOf Try.prog 81 = 2 := by kernel_rfl
theorem tk87 : tk Try.prog 87 = .agg 3 false := by kernel_rfl
theorem ct87 : compTs Try.prog 87 = [72, 72, 4] := by kernel_rfl
theorem ek87 : ek Try.prog 87 = .agg := by kernel_rfl
theorem zv87 : zeroV Try.prog 87 = some (.d (.agg 87 [.int .i64 0, .int .i64 0, .bool false])) := by kernel_rfl
theorem by87 : Try.prog.bytesOf 87 = 24 := by kernel_rfl
theorem so87 : szOf Try.prog 87 = 3 := by kernel_rfl
theorem tk89 : tk Try.prog 89 = .agg 6 false := by kernel_rfl
theorem ct89 : compTs Try.prog 89 = [3, 66, 35, 87, 22, 3] := by kernel_rfl
theorem zv89 : zeroV Try.prog 89 = some (.agg 89 [.d (.int .i64 0), .d (.agg 66 [.agg 64 [.int .i64 0, .int .i64 0, .bool false], .agg 64 [.int .i64 0, .int .i64 0, .bool false], .agg 64 [.int .i64 0, .int .i64 0, .bool false]]), .d (.agg 35 [.int .i64 0, .int .i64 0, .bool false]), .d (.agg 87 [.int .i64 0, .int .i64 0, .bool false]), .nils 3, .d (.int .i64 0)]) := by kernel_rfl
theorem by89 : Try.prog.bytesOf 89 = 160 := by kernel_rfl
theorem so89 : szOf Try.prog 89 = 18 := by kernel_rfl
theorem tk133 : tk Try.prog 133 = .one := by kernel_rfl
theorem ik133 : intK Try.prog 133 = some .u64 := by kernel_rfl
theorem ek133 : ek Try.prog 133 = .int := by kernel_rfl
theorem zv133 : zeroV Try.prog 133 = some (.d (.int .u64 0)) := by kernel_rfl
theorem by133 : Try.prog.bytesOf 133 = 8 := by kernel_rfl
theorem so133 : szOf Try.prog 133 = 1 := by kernel_rfl
theorem tk147 : tk Try.prog 147 = .one := by kernel_rfl
theorem ik147 : intK Try.prog 147 = some .u64 := by kernel_rfl
theorem ek147 : ek Try.prog 147 = .int := by kernel_rfl
theorem zv147 : zeroV Try.prog 147 = some (.d (.int .u64 0)) := by kernel_rfl
theorem by147 : Try.prog.bytesOf 147 = 8 := by kernel_rfl
theorem so147 : szOf Try.prog 147 = 1 := by kernel_rfl
theorem tk153 : tk Try.prog 153 = .one := by kernel_rfl
theorem zv153 : zeroV Try.prog 153 = some (.jk) := by kernel_rfl
theorem by153 : Try.prog.bytesOf 153 = 8 := by kernel_rfl
theorem so153 : szOf Try.prog 153 = 1 := by kernel_rfl
theorem tk165 : tk Try.prog 165 = .agg 3 false := by kernel_rfl
theorem ct165 : compTs Try.prog 165 = [2, 2, 2] := by kernel_rfl
theorem ek165 : ek Try.prog 165 = .agg := by kernel_rfl
theorem zv165 : zeroV Try.prog 165 = some (.d (.agg 165 [.int .i64 0, .int .i64 0, .int .i64 0])) := by kernel_rfl
theorem by165 : Try.prog.bytesOf 165 = 24 := by kernel_rfl
theorem so165 : szOf Try.prog 165 = 3 := by kernel_rfl
theorem tk167 : tk Try.prog 167 = .agg 2 false := by kernel_rfl
theorem ct167 : compTs Try.prog 167 = [165, 67] := by kernel_rfl
theorem ek167 : ek Try.prog 167 = .agg := by kernel_rfl
theorem zv167 : zeroV Try.prog 167 = some (.d (.agg 167 [.agg 165 [.int .i64 0, .int .i64 0, .int .i64 0], .int .i64 0])) := by kernel_rfl
theorem by167 : Try.prog.bytesOf 167 = 32 := by kernel_rfl
theorem so167 : szOf Try.prog 167 = 4 := by kernel_rfl
theorem tk168 : tk Try.prog 168 = .agg 3 true := by kernel_rfl
theorem ct168 : compTs Try.prog 168 = [64, 64, 64] := by kernel_rfl
theorem zv168 : zeroV Try.prog 168 = some (.d (.agg 168 [.agg 64 [.int .i64 0, .int .i64 0, .bool false], .agg 64 [.int .i64 0, .int .i64 0, .bool false], .agg 64 [.int .i64 0, .int .i64 0, .bool false]])) := by kernel_rfl
theorem by168 : Try.prog.bytesOf 168 = 72 := by kernel_rfl
theorem so168 : szOf Try.prog 168 = 9 := by kernel_rfl
theorem tk176 : tk Try.prog 176 = .agg 2 false := by kernel_rfl
theorem ct176 : compTs Try.prog 176 = [2, 133] := by kernel_rfl
theorem ek176 : ek Try.prog 176 = .agg := by kernel_rfl
theorem zv176 : zeroV Try.prog 176 = some (.d (.agg 176 [.int .i64 0, .int .u64 0])) := by kernel_rfl
theorem by176 : Try.prog.bytesOf 176 = 16 := by kernel_rfl
theorem so176 : szOf Try.prog 176 = 2 := by kernel_rfl
theorem tk179 : tk Try.prog 179 = .sl 2 := by kernel_rfl
theorem zv179 : zeroV Try.prog 179 = some (.nils 2) := by kernel_rfl
theorem by179 : Try.prog.bytesOf 179 = 24 := by kernel_rfl
theorem so179 : szOf Try.prog 179 = 1 := by kernel_rfl
theorem tk180 : tk Try.prog 180 = .agg 3 true := by kernel_rfl
theorem ct180 : compTs Try.prog 180 = [179, 179, 179] := by kernel_rfl
theorem zv180 : zeroV Try.prog 180 = some (.agg 180 [.nils 2, .nils 2, .nils 2]) := by kernel_rfl
theorem by180 : Try.prog.bytesOf 180 = 72 := by kernel_rfl
theorem so180 : szOf Try.prog 180 = 3 := by kernel_rfl
theorem tk195 : tk Try.prog 195 = .sl 27 := by kernel_rfl
theorem zv195 : zeroV Try.prog 195 = some (.nils 27) := by kernel_rfl
theorem by195 : Try.prog.bytesOf 195 = 24 := by kernel_rfl
theorem so195 : szOf Try.prog 195 = 1 := by kernel_rfl
theorem tk266 : tk Try.prog 266 = .one := by kernel_rfl
theorem zv266 : zeroV Try.prog 266 = some (.jk) := by kernel_rfl
theorem by266 : Try.prog.bytesOf 266 = 8 := by kernel_rfl
theorem so266 : szOf Try.prog 266 = 1 := by kernel_rfl
theorem tk270 : tk Try.prog 270 = .one := by kernel_rfl
theorem ik270 : intK Try.prog 270 = some .i64 := by kernel_rfl
theorem ek270 : ek Try.prog 270 = .int := by kernel_rfl
theorem zv270 : zeroV Try.prog 270 = some (.d (.int .i64 0)) := by kernel_rfl
theorem by270 : Try.prog.bytesOf 270 = 8 := by kernel_rfl
theorem so270 : szOf Try.prog 270 = 1 := by kernel_rfl
theorem tk279 : tk Try.prog 279 = .one := by kernel_rfl
theorem ik279 : intK Try.prog 279 = some .u32 := by kernel_rfl
theorem ek279 : ek Try.prog 279 = .int := by kernel_rfl
theorem zv279 : zeroV Try.prog 279 = some (.d (.int .u32 0)) := by kernel_rfl
theorem by279 : Try.prog.bytesOf 279 = 4 := by kernel_rfl
theorem so279 : szOf Try.prog 279 = 1 := by kernel_rfl
theorem tk285 : tk Try.prog 285 = .one := by kernel_rfl
theorem zv285 : zeroV Try.prog 285 = some (.jk) := by kernel_rfl
theorem by285 : Try.prog.bytesOf 285 = 8 := by kernel_rfl
theorem so285 : szOf Try.prog 285 = 1 := by kernel_rfl
theorem tk295 : tk Try.prog 295 = .one := by kernel_rfl
theorem by295 : Try.prog.bytesOf 295 = 16 := by kernel_rfl
theorem so295 : szOf Try.prog 295 = 1 := by kernel_rfl
theorem tk301 : tk Try.prog 301 = .one := by kernel_rfl
theorem ik301 : intK Try.prog 301 = some .u64 := by kernel_rfl
theorem ek301 : ek Try.prog 301 = .int := by kernel_rfl
theorem zv301 : zeroV Try.prog 301 = some (.d (.int .u64 0)) := by kernel_rfl
theorem by301 : Try.prog.bytesOf 301 = 8 := by kernel_rfl
theorem so301 : szOf Try.prog 301 = 1 := by kernel_rfl
theorem tk305 : tk Try.prog 305 = .one := by kernel_rfl
theorem ek305 : ek Try.prog 305 = .ptr := by kernel_rfl
theorem zv305 : zeroV Try.prog 305 = some (.d (.np)) := by kernel_rfl
theorem by305 : Try.prog.bytesOf 305 = 8 := by kernel_rfl
theorem so305 : szOf Try.prog 305 = 1 := by kernel_rfl
theorem tk311 : tk Try.prog 311 = .one := by kernel_rfl
theorem ek311 : ek Try.prog 311 = .ptr := by kernel_rfl
theorem zv311 : zeroV Try.prog 311 = some (.d (.np)) := by kernel_rfl
theorem by311 : Try.prog.bytesOf 311 = 8 := by kernel_rfl
theorem so311 : szOf Try.prog 311 = 1 := by kernel_rfl
def k22 : Cod (List Int) := cL 3 (cI .i64)
theorem k22_e (y : List Int) : k22.e y = .sl 3 (y.map (D.int .i64)) := nr rfl
def k23 : Cod (List Int) := cL 32 (cI .i64)
theorem k23_e (y : List Int) : k23.e y = .sl 32 (y.map (D.int .i64)) := nr rfl
def k35 : Cod (Int × Int × Bool × Unit) := cA 35 (cCons (cI .i64) (cCons (cI .i64) (cCons cB cNil)))
theorem k35_e (y : Int × Int × Bool × Unit) : k35.e y = .agg 35 [.int .i64 y.1, .int .i64 y.2.1, .bool y.2.2.1] := nr rfl
def k37 : Cod (Int × Int × Bool × Unit) := cA 37 (cCons (cI .i64) (cCons (cI .i64) (cCons cB cNil)))
theorem k37_e (y : Int × Int × Bool × Unit) : k37.e y = .agg 37 [.int .i64 y.1, .int .i64 y.2.1, .bool y.2.2.1] := nr rfl
def k40 : Cod (Int × Int × Bool × Unit) := cA 40 (cCons (cI .i64) (cCons (cI .i64) (cCons cB cNil)))
theorem k40_e (y : Int × Int × Bool × Unit) : k40.e y = .agg 40 [.int .i64 y.1, .int .i64 y.2.1, .bool y.2.2.1] := nr rfl
def k165 : Cod (Int × Int × Int × Unit) := cA 165 (cCons (cI .i64) (cCons (cI .i64) (cCons (cI .i64) cNil)))
theorem k165_e (y : Int × Int × Int × Unit) : k165.e y = .agg 165 [.int .i64 y.1, .int .i64 y.2.1, .int .i64 y.2.2.1] := nr rfl
def k176 : Cod (Int × Int × Unit) := cA 176 (cCons (cI .i64) (cCons (cI .u64) cNil))
theorem k176_e (y : Int × Int × Unit) : k176.e y = .agg 176 [.int .i64 y.1, .int .u64 y.2.1] := nr rfl
def k179 : Cod (List Int) := cL 2 (cI .i64)
theorem k179_e (y : List Int) : k179.e y = .sl 2 (y.map (D.int .i64)) := nr rfl
def k64 : Cod (Int × Int × Bool × Unit) := cA 64 (cCons (cI .i64) (cCons (cI .i64) (cCons cB cNil)))
theorem k64_e (y : Int × Int × Bool × Unit) : k64.e y = .agg 64 [.int .i64 y.1, .int .i64 y.2.1, .bool y.2.2.1] := nr rfl
def k195 : Cod (List Int) := cL 27 (cI .i64)
theorem k195_e (y : List Int) : k195.e y = .sl 27 (y.map (D.int .i64)) := nr rfl
def k81 : Cod (Int × Int × Unit) := cA 81 (cCons (cI .i64) (cCons (cI .i64) cNil))
theorem k81_e (y : Int × Int × Unit) : k81.e y = .agg 81 [.int .i64 y.1, .int .i64 y.2.1] := nr rfl
def k87 : Cod (Int × Int × Bool × Unit) := cA 87 (cCons (cI .i64) (cCons (cI .i64) (cCons cB cNil)))
theorem k87_e (y : Int × Int × Bool × Unit) : k87.e y = .agg 87 [.int .i64 y.1, .int .i64 y.2.1, .bool y.2.2.1] := nr rfl
def k167 : Cod ((Int × Int × Int × Unit) × Int × Unit) := cA 167 (cCons k165 (cCons (cI .i64) cNil))
theorem k167_e (y : (Int × Int × Int × Unit) × Int × Unit) : k167.e y = .agg 167 [.agg 165 [.int .i64 y.1.1, .int .i64 y.1.2.1, .int .i64 y.1.2.2.1], .int .i64 y.2.1] := nr rfl
def k43 : Cod (List (Int × Int × Bool × Unit)) := cL 35 k35
theorem k43_e (y : List (Int × Int × Bool × Unit)) : k43.e y = .sl 35 (y.map k35.e) := nr rfl
def k168 : Cod ((Int × Int × Bool × Unit) × (Int × Int × Bool × Unit) × (Int × Int × Bool × Unit) × Unit) := cA 168 (cCons k64 (cCons k64 (cCons k64 cNil)))
theorem k168_e (y : (Int × Int × Bool × Unit) × (Int × Int × Bool × Unit) × (Int × Int × Bool × Unit) × Unit) : k168.e y = .agg 168 [.agg 64 [.int .i64 y.1.1, .int .i64 y.1.2.1, .bool y.1.2.2.1], .agg 64 [.int .i64 y.2.1.1, .int .i64 y.2.1.2.1, .bool y.2.1.2.2.1], .agg 64 [.int .i64 y.2.2.1.1, .int .i64 y.2.2.1.2.1, .bool y.2.2.1.2.2.1]] := nr rfl
def k180 : Cod ((List Int) × (List Int) × (List Int) × Unit) := cA 180 (cCons k179 (cCons k179 (cCons k179 cNil)))
theorem k180_e (y : (List Int) × (List Int) × (List Int) × Unit) : k180.e y = .agg 180 [.sl 2 (y.1.map (D.int .i64)), .sl 2 (y.2.1.map (D.int .i64)), .sl 2 (y.2.2.1.map (D.int .i64))] := nr rfl
def k66 : Cod ((Int × Int × Bool × Unit) × (Int × Int × Bool × Unit) × (Int × Int × Bool × Unit) × Unit) := cA 66 (cCons k64 (cCons k64 (cCons k64 cNil)))
theorem k66_e (y : (Int × Int × Bool × Unit) × (Int × Int × Bool × Unit) × (Int × Int × Bool × Unit) × Unit) : k66.e y = .agg 66 [.agg 64 [.int .i64 y.1.1, .int .i64 y.1.2.1, .bool y.1.2.2.1], .agg 64 [.int .i64 y.2.1.1, .int .i64 y.2.1.2.1, .bool y.2.1.2.2.1], .agg 64 [.int .i64 y.2.2.1.1, .int .i64 y.2.2.1.2.1, .bool y.2.2.1.2.2.1]] := nr rfl
def k75 : Cod (List (Int × Int × Unit)) := cL 81 k81
theorem k75_e (y : List (Int × Int × Unit)) : k75.e y = .sl 81 (y.map k81.e) := nr rfl
def k45 : Cod (Int × Int × (List (Int × Int × Bool × Unit)) × Unit) := cA 45 (cCons (cI .i64) (cCons (cI .i64) (cCons k43 cNil)))
theorem k45_e (y : Int × Int × (List (Int × Int × Bool × Unit)) × Unit) : k45.e y = .agg 45 [.int .i64 y.1, .int .i64 y.2.1, .sl 35 (y.2.2.1.map k35.e)] := nr rfl
def k71 : Cod (List ((Int × Int × Int × Unit) × Int × Unit)) := cL 167 k167
theorem k71_e (y : List ((Int × Int × Int × Unit) × Int × Unit)) : k71.e y = .sl 167 (y.map k167.e) := nr rfl
def k89 : Cod (Int × ((Int × Int × Bool × Unit) × (Int × Int × Bool × Unit) × (Int × Int × Bool × Unit) × Unit) × (Int × Int × Bool × Unit) × (Int × Int × Bool × Unit) × (List Int) × Int × Unit) := cA 89 (cCons (cI .i64) (cCons k66 (cCons k35 (cCons k87 (cCons k22 (cCons (cI .i64) cNil))))))
theorem k89_e (y : Int × ((Int × Int × Bool × Unit) × (Int × Int × Bool × Unit) × (Int × Int × Bool × Unit) × Unit) × (Int × Int × Bool × Unit) × (Int × Int × Bool × Unit) × (List Int) × Int × Unit) : k89.e y = .agg 89 [.int .i64 y.1, .agg 66 [.agg 64 [.int .i64 y.2.1.1.1, .int .i64 y.2.1.1.2.1, .bool y.2.1.1.2.2.1], .agg 64 [.int .i64 y.2.1.2.1.1, .int .i64 y.2.1.2.1.2.1, .bool y.2.1.2.1.2.2.1], .agg 64 [.int .i64 y.2.1.2.2.1.1, .int .i64 y.2.1.2.2.1.2.1, .bool y.2.1.2.2.1.2.2.1]], .agg 35 [.int .i64 y.2.2.1.1, .int .i64 y.2.2.1.2.1, .bool y.2.2.1.2.2.1], .agg 87 [.int .i64 y.2.2.2.1.1, .int .i64 y.2.2.2.1.2.1, .bool y.2.2.2.1.2.2.1], .sl 3 (y.2.2.2.2.1.map (D.int .i64)), .int .i64 y.2.2.2.2.2.1] := nr rfl
def k70 : Cod (List (Int × ((Int × Int × Bool × Unit) × (Int × Int × Bool × Unit) × (Int × Int × Bool × Unit) × Unit) × (Int × Int × Bool × Unit) × (Int × Int × Bool × Unit) × (List Int) × Int × Unit)) := cL 89 k89
theorem k70_e (y : List (Int × ((Int × Int × Bool × Unit) × (Int × Int × Bool × Unit) × (Int × Int × Bool × Unit) × Unit) × (Int × Int × Bool × Unit) × (Int × Int × Bool × Unit) × (List Int) × Int × Unit)) : k70.e y = .sl 89 (y.map k89.e) := nr rfl
def k74 : Cod ((List ((Int × Int × Int × Unit) × Int × Unit)) × Int × Int × Int × Int × Unit) := cA 74 (cCons k71 (cCons (cI .i64) (cCons (cI .i64) (cCons (cI .i64) (cCons (cI .i64) cNil)))))
theorem k74_e (y : (List ((Int × Int × Int × Unit) × Int × Unit)) × Int × Int × Int × Int × Unit) : k74.e y = .agg 74 [.sl 167 (y.1.map k167.e), .int .i64 y.2.1, .int .i64 y.2.2.1, .int .i64 y.2.2.2.1, .int .i64 y.2.2.2.2.1] := nr rfl
theorem mixed : Try.prog.follows .mixedOrders = true := by kernel_rfl
end Go.Proofs.Ytnojehmbiceceaa.Ty
end
section
set_option linter.unusedVariables false
set_option linter.unusedSimpArgs false
set_option maxRecDepth 100000
namespace Go.Proofs.Ytnojehmbiceceaa.E
open Go.Ev
noncomputable def en8 : Entry := ⟨Try.f8, [(1000000, mb 19 0 [6])]⟩
theorem dw8_1 (lv : Nat) (env : List V) (st : Store) (o : Option (List V × Store)) : drawR en8.ms 1 lv env st o = if lv < 1000000000000000000000000000000 then (o) else none := nr rfl
theorem kl8_1 (lv : Nat) (st : Store) : killR en8.ms 1 lv st = st := nr rfl
theorem nc8_1 : ncOf en8.ms 1 = false := nr rfl
theorem mk8_1000000 (vs : List V) : mask (maskOf en8.ms 1000000) vs = km 19 0 [6] vs := mask_mb _ _ _ _
end Go.Proofs.Ytnojehmbiceceaa.E
end
section
set_option linter.unusedVariables false
set_option linter.unusedSimpArgs false
set_option maxRecDepth 100000
namespace Go.Proofs.Ytnojehmbiceceaa.E
open Go.Ev
noncomputable def en32 : Entry := ⟨Try.f32, [(1000000, mb 41 0 [0])]⟩
theorem mk32_1000000 (vs : List V) : mask (maskOf en32.ms 1000000) vs = km 41 0 [0] vs := mask_mb _ _ _ _
end Go.Proofs.Ytnojehmbiceceaa.E
end
section
set_option linter.unusedVariables false
set_option linter.unusedSimpArgs false
set_option maxRecDepth 100000
namespace Go.Proofs.Ytnojehmbiceceaa.E
open Go.Ev
noncomputable def en35 : Entry := ⟨Try.f35, [(0, mb 42 0 [3, 8, 22, 23, 24]), (1000001, mb 42 0 [8]), (1000002, mb 42 0 [3, 8, 22, 23, 24]), (1000000, mb 42 0 [4, 5])]⟩
theorem mk35_0 (vs : List V) : mask (maskOf en35.ms 0) vs = km 42 0 [3, 8, 22, 23, 24] vs := mask_mb _ _ _ _
theorem mk35_1000001 (vs : List V) : mask (maskOf en35.ms 1000001) vs = km 42 0 [8] vs := mask_mb _ _ _ _
theorem mk35_1000002 (vs : List V) : mask (maskOf en35.ms 1000002) vs = km 42 0 [3, 8, 22, 23, 24] vs := mask_mb _ _ _ _
theorem mk35_1000000 (vs : List V) : mask (maskOf en35.ms 1000000) vs = km 42 0 [4, 5] vs := mask_mb _ _ _ _
theorem fz35_0 (lv : Nat) (f : Run) : frzF en35.ms lv 0 f = f := nr rfl
theorem fi35_0 (lv : Nat) (env : List V) (st : Store) (q : Store → Out) : frzI en35.ms lv 0 env st q = q st := nr rfl
noncomputable def lb35_0 : Code := loopN Try.f35 0
end Go.Proofs.Ytnojehmbiceceaa.E
end
section
set_option linter.unusedVariables false
set_option linter.unusedSimpArgs false
set_option maxRecDepth 100000
namespace Go.Proofs.Ytnojehmbiceceaa.E
open Go.Ev
noncomputable def en37 : Entry := ⟨Try.f37, [(0, mb 72 0 [1, 11, 12, 13]), (1000001, mb 72 0 [1]), (1000002, mb 72 0 [1, 11, 12, 13]), (1000003, mb 72 0 []), (1000000, mb 72 0 [2])]⟩
theorem mk37_0 (vs : List V) : mask (maskOf en37.ms 0) vs = km 72 0 [1, 11, 12, 13] vs := mask_mb _ _ _ _
theorem mk37_1000001 (vs : List V) : mask (maskOf en37.ms 1000001) vs = km 72 0 [1] vs := mask_mb _ _ _ _
theorem mk37_1000002 (vs : List V) : mask (maskOf en37.ms 1000002) vs = km 72 0 [1, 11, 12, 13] vs := mask_mb _ _ _ _
theorem mk37_1000003 (vs : List V) : mask (maskOf en37.ms 1000003) vs = km 72 0 [] vs := mask_mb _ _ _ _
theorem mk37_1000000 (vs : List V) : mask (maskOf en37.ms 1000000) vs = km 72 0 [2] vs := mask_mb _ _ _ _
theorem fz37_0 (lv : Nat) (f : Run) : frzF en37.ms lv 0 f = f := nr rfl
theorem fi37_0 (lv : Nat) (env : List V) (st : Store) (q : Store → Out) : frzI en37.ms lv 0 env st q = q st := nr rfl
noncomputable def lb37_0 : Code := loopN Try.f37 0
end Go.Proofs.Ytnojehmbiceceaa.E
end
section
set_option linter.unusedVariables false
set_option linter.unusedSimpArgs false
set_option maxRecDepth 100000
namespace Go.Proofs.Ytnojehmbiceceaa.E
open Go.Ev
noncomputable def en41 : Entry := ⟨Try.f41, [(0, mb 35 0 [0, 9, 10, 11]), (1000001, mb 35 0 []), (1000002, mb 35 0 [0, 9, 10, 11]), (1000000, mb 35 0 [2])]⟩
theorem dw41_9 (lv : Nat) (env : List V) (st : Store) (o : Option (List V × Store)) : drawR en41.ms 9 lv env st o = if lv < 1000000000000000000000000000000 then (o) else none := nr rfl
theorem kl41_9 (lv : Nat) (st : Store) : killR en41.ms 9 lv st = st := nr rfl
theorem nc41_9 : ncOf en41.ms 9 = false := nr rfl
theorem mk41_0 (vs : List V) : mask (maskOf en41.ms 0) vs = km 35 0 [0, 9, 10, 11] vs := mask_mb _ _ _ _
theorem mk41_1000001 (vs : List V) : mask (maskOf en41.ms 1000001) vs = km 35 0 [] vs := mask_mb _ _ _ _
theorem mk41_1000002 (vs : List V) : mask (maskOf en41.ms 1000002) vs = km 35 0 [0, 9, 10, 11] vs := mask_mb _ _ _ _
theorem mk41_1000000 (vs : List V) : mask (maskOf en41.ms 1000000) vs = km 35 0 [2] vs := mask_mb _ _ _ _
theorem fz41_0 (lv : Nat) (f : Run) : frzF en41.ms lv 0 f = f := nr rfl
theorem fi41_0 (lv : Nat) (env : List V) (st : Store) (q : Store → Out) : frzI en41.ms lv 0 env st q = q st := nr rfl
noncomputable def lb41_0 : Code := loopN Try.f41 0
end Go.Proofs.Ytnojehmbiceceaa.E
end
section
set_option linter.unusedVariables false
set_option linter.unusedSimpArgs false
set_option maxRecDepth 100000
namespace Go.Proofs.Ytnojehmbiceceaa.E
open Go.Ev
noncomputable def en45 : Entry := ⟨Try.f45, [(0, mb 94 0 [1, 26, 27]), (3, mb 94 0 [1, 58, 59, 60]), (1000001, mb 94 0 [1]), (1000002, mb 94 0 [1, 26, 27]), (1000003, mb 94 0 [1]), (1000004, mb 94 0 [1]), (1000005, mb 94 0 [1, 58, 59, 60]), (1000006, mb 94 0 [1, 58, 59, 60]), (1000000, mb 94 0 [2])]⟩
theorem dw45_10 (lv : Nat) (env : List V) (st : Store) (o : Option (List V × Store)) : drawR en45.ms 10 lv env st o = if lv < 1000000000000000000000000000000 then (o) else none := nr rfl
theorem kl45_10 (lv : Nat) (st : Store) : killR en45.ms 10 lv st = st := nr rfl
theorem nc45_10 : ncOf en45.ms 10 = false := nr rfl
theorem mk45_0 (vs : List V) : mask (maskOf en45.ms 0) vs = km 94 0 [1, 26, 27] vs := mask_mb _ _ _ _
theorem mk45_3 (vs : List V) : mask (maskOf en45.ms 3) vs = km 94 0 [1, 58, 59, 60] vs := mask_mb _ _ _ _
theorem mk45_1000001 (vs : List V) : mask (maskOf en45.ms 1000001) vs = km 94 0 [1] vs := mask_mb _ _ _ _
theorem mk45_1000002 (vs : List V) : mask (maskOf en45.ms 1000002) vs = km 94 0 [1, 26, 27] vs := mask_mb _ _ _ _
theorem mk45_1000003 (vs : List V) : mask (maskOf en45.ms 1000003) vs = km 94 0 [1] vs := mask_mb _ _ _ _
theorem mk45_1000004 (vs : List V) : mask (maskOf en45.ms 1000004) vs = km 94 0 [1] vs := mask_mb _ _ _ _
theorem mk45_1000005 (vs : List V) : mask (maskOf en45.ms 1000005) vs = km 94 0 [1, 58, 59, 60] vs := mask_mb _ _ _ _
theorem mk45_1000006 (vs : List V) : mask (maskOf en45.ms 1000006) vs = km 94 0 [1, 58, 59, 60] vs := mask_mb _ _ _ _
theorem mk45_1000000 (vs : List V) : mask (maskOf en45.ms 1000000) vs = km 94 0 [2] vs := mask_mb _ _ _ _
theorem fz45_0 (lv : Nat) (f : Run) : frzF en45.ms lv 0 f = f := nr rfl
theorem fi45_0 (lv : Nat) (env : List V) (st : Store) (q : Store → Out) : frzI en45.ms lv 0 env st q = q st := nr rfl
theorem fz45_3 (lv : Nat) (f : Run) : frzF en45.ms lv 3 f = f := nr rfl
theorem fi45_3 (lv : Nat) (env : List V) (st : Store) (q : Store → Out) : frzI en45.ms lv 3 env st q = q st := nr rfl
noncomputable def lb45_0 : Code := loopN Try.f45 0
noncomputable def lb45_3 : Code := loopN Try.f45 1
end Go.Proofs.Ytnojehmbiceceaa.E
end
section
set_option linter.unusedVariables false
set_option linter.unusedSimpArgs false
set_option maxRecDepth 100000
namespace Go.Proofs.Ytnojehmbiceceaa.E
open Go.Ev
noncomputable def en105 : Entry := ⟨Try.f105, [(1000000, mb 11 0 [4])]⟩
theorem mk105_1000000 (vs : List V) : mask (maskOf en105.ms 1000000) vs = km 11 0 [4] vs := mask_mb _ _ _ _
end Go.Proofs.Ytnojehmbiceceaa.E
end
section
set_option linter.unusedVariables false
set_option linter.unusedSimpArgs false
set_option maxRecDepth 100000
namespace Go.Proofs.Ytnojehmbiceceaa.E
open Go.Ev
noncomputable def en119 : Entry := ⟨Try.f119, [(0, mb 46 0 [2, 5, 28, 29, 30]), (1000001, mb 46 0 [5]), (1000002, mb 46 0 [2, 5, 28, 29, 30]), (1000000, mb 46 0 [4])]⟩
theorem dw119_1 (lv : Nat) (env : List V) (st : Store) (o : Option (List V × Store)) : drawR en119.ms 1 lv env st o = if lv < 1000000000000000000000000000000 then (o) else none := nr rfl
theorem kl119_1 (lv : Nat) (st : Store) : killR en119.ms 1 lv st = st := nr rfl
theorem nc119_1 : ncOf en119.ms 1 = false := nr rfl
theorem dw119_7 (lv : Nat) (env : List V) (st : Store) (o : Option (List V × Store)) : drawR en119.ms 7 lv env st o = if lv < 1000000000000000000000000000000 then (o) else none := nr rfl
theorem kl119_7 (lv : Nat) (st : Store) : killR en119.ms 7 lv st = st := nr rfl
theorem nc119_7 : ncOf en119.ms 7 = false := nr rfl
theorem mk119_0 (vs : List V) : mask (maskOf en119.ms 0) vs = km 46 0 [2, 5, 28, 29, 30] vs := mask_mb _ _ _ _
theorem mk119_1000001 (vs : List V) : mask (maskOf en119.ms 1000001) vs = km 46 0 [5] vs := mask_mb _ _ _ _
theorem mk119_1000002 (vs : List V) : mask (maskOf en119.ms 1000002) vs = km 46 0 [2, 5, 28, 29, 30] vs := mask_mb _ _ _ _
theorem mk119_1000000 (vs : List V) : mask (maskOf en119.ms 1000000) vs = km 46 0 [4] vs := mask_mb _ _ _ _
theorem fz119_0 (lv : Nat) (f : Run) : frzF en119.ms lv 0 f = f := nr rfl
theorem fi119_0 (lv : Nat) (env : List V) (st : Store) (q : Store → Out) : frzI en119.ms lv 0 env st q = q st := nr rfl
noncomputable def lb119_0 : Code := loopN Try.f119 0
end Go.Proofs.Ytnojehmbiceceaa.E
end
section
set_option linter.unusedVariables false
set_option linter.unusedSimpArgs false
set_option maxRecDepth 100000
namespace Go.Proofs.Ytnojehmbiceceaa.E
open Go.Ev
noncomputable def en121 : Entry := ⟨Try.f121, [(1000001, mb 26 0 []), (1000000, mb 26 0 [2])]⟩
theorem mk121_1000001 (vs : List V) : mask (maskOf en121.ms 1000001) vs = km 26 0 [] vs := mask_mb _ _ _ _
theorem mk121_1000000 (vs : List V) : mask (maskOf en121.ms 1000000) vs = km 26 0 [2] vs := mask_mb _ _ _ _
end Go.Proofs.Ytnojehmbiceceaa.E
end
section
set_option linter.unusedVariables false
set_option linter.unusedSimpArgs false
set_option maxRecDepth 100000
namespace Go.Proofs.Ytnojehmbiceceaa.E
open Go.Ev
noncomputable def en125 : Entry := ⟨Try.f125, [(1000000, mb 22 0 [4])]⟩
theorem mk125_1000000 (vs : List V) : mask (maskOf en125.ms 1000000) vs = km 22 0 [4] vs := mask_mb _ _ _ _
end Go.Proofs.Ytnojehmbiceceaa.E
end
section
set_option linter.unusedVariables false
set_option linter.unusedSimpArgs false
set_option maxRecDepth 100000
namespace Go.Proofs.Ytnojehmbiceceaa.E
open Go.Ev
noncomputable def en181 : Entry := ⟨Try.f181, [(1000000, mb 6 0 [2])]⟩
theorem mk181_1000000 (vs : List V) : mask (maskOf en181.ms 1000000) vs = km 6 0 [2] vs := mask_mb _ _ _ _
end Go.Proofs.Ytnojehmbiceceaa.E
end
section
set_option linter.unusedVariables false
set_option linter.unusedSimpArgs false
set_option maxRecDepth 100000
namespace Go.Proofs.Ytnojehmbiceceaa.E
open Go.Ev
noncomputable def en193 : Entry := ⟨Try.f193, [(1000001, mb 37 0 []), (1000000, mb 37 0 [2])]⟩
theorem mk193_1000001 (vs : List V) : mask (maskOf en193.ms 1000001) vs = km 37 0 [] vs := mask_mb _ _ _ _
theorem mk193_1000000 (vs : List V) : mask (maskOf en193.ms 1000000) vs = km 37 0 [2] vs := mask_mb _ _ _ _
end Go.Proofs.Ytnojehmbiceceaa.E
end
section
set_option linter.unusedVariables false
set_option linter.unusedSimpArgs false
set_option maxRecDepth 100000
namespace Go.Proofs.Ytnojehmbiceceaa.E
open Go.Ev
noncomputable def en227 : Entry := ⟨Try.f227, [(1000000, mb 9 0 [4])]⟩
theorem mk227_1000000 (vs : List V) : mask (maskOf en227.ms 1000000) vs = km 9 0 [4] vs := mask_mb _ _ _ _
end Go.Proofs.Ytnojehmbiceceaa.E
end
section
set_option linter.unusedVariables false
set_option linter.unusedSimpArgs false
set_option maxRecDepth 100000
namespace Go.Proofs.Ytnojehmbiceceaa.E
open Go.Ev
noncomputable def en258 : Entry := ⟨Try.f258, [(1000000, mb 8 0 [2])]⟩
theorem mk258_1000000 (vs : List V) : mask (maskOf en258.ms 1000000) vs = km 8 0 [2] vs := mask_mb _ _ _ _
end Go.Proofs.Ytnojehmbiceceaa.E
end
section
set_option linter.unusedVariables false
set_option linter.unusedSimpArgs false
set_option maxRecDepth 100000
namespace Go.Proofs.Ytnojehmbiceceaa.E
open Go.Ev
noncomputable def en265 : Entry := ⟨Try.f265, [(1000000, mb 2 0 [0])]⟩
theorem mk265_1000000 (vs : List V) : mask (maskOf en265.ms 1000000) vs = km 2 0 [0] vs := mask_mb _ _ _ _
end Go.Proofs.Ytnojehmbiceceaa.E
end
section
set_option linter.unusedVariables false
set_option linter.unusedSimpArgs false
set_option maxRecDepth 100000
namespace Go.Proofs.Ytnojehmbiceceaa.E
open Go.Ev
noncomputable def en100 : Entry := ⟨Try.f100, [(0, mb 18 0 [3, 6, 7, 8]), (1000001, mb 18 0 [3]), (1000002, mb 18 0 [3, 6, 7, 8]), (1000000, mb 18 0 [2])]⟩
theorem mk100_0 (vs : List V) : mask (maskOf en100.ms 0) vs = km 18 0 [3, 6, 7, 8] vs := mask_mb _ _ _ _
theorem mk100_1000001 (vs : List V) : mask (maskOf en100.ms 1000001) vs = km 18 0 [3] vs := mask_mb _ _ _ _
theorem mk100_1000002 (vs : List V) : mask (maskOf en100.ms 1000002) vs = km 18 0 [3, 6, 7, 8] vs := mask_mb _ _ _ _
theorem mk100_1000000 (vs : List V) : mask (maskOf en100.ms 1000000) vs = km 18 0 [2] vs := mask_mb _ _ _ _
theorem fz100_0 (lv : Nat) (f : Run) : frzF en100.ms lv 0 f = f := nr rfl
theorem fi100_0 (lv : Nat) (env : List V) (st : Store) (q : Store → Out) : frzI en100.ms lv 0 env st q = q st := nr rfl
noncomputable def lb100_0 : Code := loopN Try.f100 0
end Go.Proofs.Ytnojehmbiceceaa.E
end
section
set_option linter.unusedVariables false
set_option linter.unusedSimpArgs false
set_option maxRecDepth 100000
namespace Go.Proofs.Ytnojehmbiceceaa.P
open Go.Ev Go.IntKind Go.Proofs.Ytnojehmbiceceaa Go.Proofs.Ytnojehmbiceceaa.Ty Go.Proofs.Ytnojehmbiceceaa.E
def p_cmp_Or_Errno_l0 (L : Nat)  : List Int → Option (Sum Unit Int)
  | [] => some (.inl ())
  | x1 :: tl => cb (decide (x1 = 0)) (p_cmp_Or_Errno_l0 L  tl) (some (.inr x1))
def p_cmp_Or_Errno (L : Nat) (a0 : List Int) : Option Int := rq (a0.length < L) <| bnd (p_cmp_Or_Errno_l0 L a0) fun o3 => match o3 with | (.inl o3_0) => (some 0) | (.inr o3_1) => (some o3_1)
attribute [local go_sem] Ev.putR_s Ev.putR_0 Ev.thenO_s Ev.thenO_0 Ev.seqR_n Ev.seqR_e Ev.seqR_r Ev.seqR_0 Ev.blkR_e Ev.blkR_n Ev.blkR_r Ev.blkR_0 Ev.normR_s Ev.normR_0 Ev.outR_r Ev.outR_n Ev.outR_0 Ev.retS_s Ev.retS_0 Ev.pureO_s Ev.pureO_0 Ev.topR_0 Ev.topR_t Ev.topR_t0 Ev.oneL_0 Ev.oneL_s Ev.topR_d Ev.topR_nils Ev.topR_agg Ev.topR_rs Ev.evOp_move Ev.evOp_assign Ev.evOp_pick Ev.evOp_alloc Ev.evOp_box Ev.evOp_build Ev.evOp_buildSlice Ev.evOp_load Ev.evOp_store Ev.evOp_makeMap Ev.evOp_lookup Ev.evOp_mapUpdate Ev.evOp_insert Ev.evOp_nilCheck Ev.evOp_binOp Ev.evOp_unOp Ev.evOp_convert Ev.evOp_makeFunc Ev.evOp_makeSlice Ev.evOp_slice Ev.evOp_fieldAddr Ev.evOp_field Ev.evOp_indexAddr Ev.evOp_index Ev.evOp_extract Ev.evOp_call Ev.evOp_append Ev.evOp_clear Ev.evOp_len Ev.evOp_min Ev.evOp_max Ev.condR_b Ev.condR_t Ev.evOps_nil Ev.evOps_plain Ev.evOps_guard Ev.runG_eq Ev.skipG_eq Ev.condL_tt Ev.condL_ff Ev.condL_tf Ev.condL_ft Ev.condL_u Ev.condC_t Ev.condC_f Ev.evC_skip Ev.evC_ret Ev.evC_exit Ev.evC_label Ev.evC_region Ev.evC_draw Ev.evC_seq Ev.evC_cond Ev.evC_block Ev.evC_loop Ev.fin_d Ev.fin_nils Ev.fin_agg_ Ev.fin_rs Ev.finS_s Ev.mapO_fin Ev.upd_upd Ev.argv_d Ev.argv_nils Ev.argv_agg Ev.argv_rs Ev.argv_p Ev.fk_low Ev.appendTo_nils Ev.appendTo_rs Ev.consV_d Ev.consV_agg Ev.consV_p Ev.consV_rs Ev.consV_nils Ev.consV_fn Ev.consV_und Ev.consV_jk Ev.consV_grown Ev.topR_grown Ev.len_grown Ev.consV_mp Ev.sameK_i Ev.sameK_s Ev.mget_0 Ev.mget_hit Ev.mget_miss Ev.mput_0 Ev.mput_hit Ev.mput_miss Ev.apartAll Ev.apartL Ev.apartV Ev.freeAll Ev.sel Ev.keyOfV Ev.evLookup Ev.evPut Ev.hintOk Ev.keyOk Ev.consP Ev.lookV Ev.guardV Ev.dstAt Ev.evPure Ev.evStore Ev.evBin Ev.evBinO Ev.evNil Ev.isNilC Ev.evUn Ev.evConv Ev.evSlice Ev.optI Ev.foldI Ev.capsOk Ev.noTup Ev.nth Ev.setN Ev.killAt Ev.pad Ev.V.get Ev.V.put Ev.putD Ev.newBlk Ev.upd Ev.keq Ev.empty Ev.evCall Ev.V.args Ev.argP Ev.callOf Ev.evNilP Ev.isNilP Ev.look Ev.V.view.views Ev.V.view Ev.V.toD Ev.V.toD.V.toDs Ev.V.pure.pures Ev.V.pure Ev.D.flat.flats Ev.D.flat Ev.mkAgg Ev.allD Ev.aggParts Ev.setParts Ev.setElems Ev.getPath Ev.setPath Ev.subL Ev.eqD Ev.eqD.eqDs Ev.and2 Ev.strCut Ev.evalT Ev.constT Ev.evArgs Ev.mask Ev.maskOf Ev.tableOf Ev.compT Ev.resV Ev.retV Ev.mapO Ev.frzO_n Ev.frzO_e Ev.frzO_r Ev.frzO_0 Ev.mb_z Ev.mb_0 Ev.mb_s Ev.frzL_t Ev.frzL_f Ev.frzL_0 Ev.frzT_nils Ev.frzT_rs Ev.frzT_p Ev.frzK_i Ev.keyIn_i Ev.rI_nil Ev.rI_cons Ev.rI_row Ev.rI_app Ev.r_d Ev.r_nils Ev.r_agg Ev.r_rs Ev.r_gl Ev.vw_row Ev.vw_app Ev.appO_s Ev.frzT_gl Ev.allD_gl Ev.killAt_i Ev.tkOne_i Ev.hT_agg Ev.hT_vagg Ev.hT_int Ev.hT_bool Ev.hT_str Ev.hT_sl Ev.hT_ptr Ev.hT_np Ev.hT_p Ev.hT_rs Ev.hT_mp Ev.hT_nils Ev.hT_fn Ev.hT_jk Ev.hT_gl Ev.eO_sl Ev.eO_nils Ev.eO_rs Ev.eT_sl Ev.eT_rs Ev.pL_str Ev.pL_sl Ev.pL_rs Ev.pL_nils Ev.pL_min Ev.pL_max Ev.len_glB Ev.noTup_gl Ev.rowV_len Ev.rowV_nil Ev.rowV_cons Ev.rowV_append Ev.rowV_set Ev.rowV_replicate Ev.nth_row Ev.row_take Ev.row_drop Ev.toDs_row Ev.fin_row Ev.map_row Ev.map_take_ Ev.map_drop_ Ev.Bk_i Ev.GlB_0 Ev.GlB_mk Ev.gl_nil Ev.gl_cons Ev.gl_snoc Ev.gl_setN Ev.appendTo_gl Ev.consV_gl Ev.elems_gl Ev.fin_gl Ev.view_gl Ev.argv_gl Ev.topR_gl Ev.sp_z Ev.sp_0 Ev.sp_s Ev.km_z Ev.km_0 Ev.km_s Ev.beq_toList Ev.nc0 Ev.bq_t Ev.bq_f Ev.bodyN Ev.le_maxRow Int.cast_ofNat_Int IntWalk.i64_in IntWalk.u64_in IntWalk.u8_in beq_self_eq_true Bool.true_beq Bool.false_beq Bool.and_true Bool.true_and Bool.false_and Bool.and_false Bool.and_self Bool.not_true Bool.not_false Bool.not_eq_true cond_true cond_false if_true if_false and_true true_and and_self decide_true decide_false Bool.or_true Bool.true_or Bool.or_false Bool.false_or List.isEmpty List.isEmpty_nil List.size_toArray List.map List.length_map List.length_cons List.length_nil Option.map Option.bind Option.getD Option.isSome List.replicate Bool.false_eq_true implies_true false_implies forall_const Array.toList Array.isEmpty List.append List.nil_append List.cons_append List.drop_zero List.take_length List.take_succ_cons List.take_zero List.take_nil List.getElem?_map List.getElem?_cons_zero List.getElem?_cons_succ List.getElem?_nil List.append_nil eq_self Int.toNat_natCast List.length_append Nat.zero_add Nat.add_zero List.length_replicate Nat.sub_zero Option.map_some Option.map_none Int.le_refl Nat.le_refl Int.natCast_nonneg List.map_append
attribute [local go_sem_proc] Nat.reduceAdd Nat.reduceSub Nat.reduceMul Nat.reduceEqDiff Nat.reduceBEq Nat.reduceLT Nat.reduceLeDiff Nat.reducePow Int.reduceToNat Int.reduceLT Int.reduceLE Int.reduceGT Int.reduceGE Int.reduceEq Int.reduceNeg Int.reduceAdd Int.reduceSub Int.reduceMul reduceCtorEq
attribute [local go_sem_proc ↓] reduceIte
noncomputable def G_cmp_Or_Errno (L : Nat) : Specs := []
noncomputable def T_cmp_Or_Errno : Table := tableOf [(100, en100)]
theorem Go_cmp_Or_Errno (L : Nat) (hL : L ≤ 4611686018427387904) : ∀ g s, Ev.look (G_cmp_Or_Errno L) g = some s → SpecOk Try.prog g s := specs_nil
theorem To_cmp_Or_Errno (L : Nat) : TableOk Try.prog ((G_cmp_Or_Errno L).map (·.1)) T_cmp_Or_Errno := (table_cons Try.func100 (by kernel_rfl) (by kernel_rfl) table_nil)
attribute [local go_sem] Ty.tk3 Ty.ik3 Ty.ek3 Ty.zv3 Ty.by3 Ty.so3 Ty.tk4 Ty.ub4 Ty.ek4 Ty.zv4 Ty.by4 Ty.so4 Ty.tk27 Ty.ik27 Ty.ek27 Ty.zv27 Ty.by27 Ty.so27 Ty.tk195 Ty.zv195 Ty.by195 Ty.so195 Ty.k195_e E.mk100_0 E.mk100_1000001 E.mk100_1000002 E.mk100_1000000 E.fz100_0 E.fi100_0 E.lb100_0 loopN loops Try.f100
def Q0_p_cmp_Or_Errno_l0 (a0 : List Int) (u : Unit) (z : Out) : Prop := ∃ env st, z = some (.exit 0, env, st) ∧ env = sp 18 0 [(3, .d (.int .i64 0))]
def Q1_p_cmp_Or_Errno_l0 (a0 : List Int) (u : Int) (z : Out) : Prop := ∃ env st, z = some (.ret, env, st) ∧ env = sp 18 0 [(2, .d (.int .i64 u))]
def Q_p_cmp_Or_Errno_l0 (a0 : List Int) (o : Sum Unit Int) (z : Out) : Prop := match o with | (.inl u) => Q0_p_cmp_Or_Errno_l0 a0 u z | (.inr u) => Q1_p_cmp_Or_Errno_l0 a0 u z
theorem l_p_cmp_Or_Errno_l0 (L : Nat) (hL : L ≤ 4611686018427387904) (a0 : List Int) : ∀ (tl : List Int) (n : Nat) (s2 : Int) (env : List V) (st : Store) (o : Sum Unit Int), tl.length < n → Rng a0 s2 tl → mask (maskOf en100.ms 0) env = sp 18 0 [(3, .d (.int .i64 0)), (6, .d (.sl 27 (a0.map (D.int .i64)))), (7, .d (.int .i64 (a0.length : Int))), (8, .d (.int .i64 s2))] → p_cmp_Or_Errno_l0 L  tl  = some o →
    Q_p_cmp_Or_Errno_l0 a0 o (iter (evC Try.prog (G_cmp_Or_Errno L) (evF Try.prog (G_cmp_Or_Errno L) T_cmp_Or_Errno L 0) L en100.ms 0 0 lb100_0) (maskOf en100.ms 0) n env st) := by
  intro tl
  induction tl with
  | nil =>
    intro n s2  env st o hn hR he  h
    obtain ⟨n, rfl⟩ : ∃ m, n = m + 1 := ⟨n - 1, by omega⟩
    have g0 := rng_nil hR
    rw [iter, he]
    clear he
    generalize hK : iter _ _ n = K
    rw [p_cmp_Or_Errno_l0] at h
    revert h
    rintro ⟨⟩
    simp only [go_sem, *]
    refine (⟨_, _, rfl, ?_⟩ : Q0_p_cmp_Or_Errno_l0 _ _ _)
    all_goals simp only [go_sem, *]
  | cons x1 tl ih =>
    intro n s2  env st o hn hR he  h
    obtain ⟨n, rfl⟩ : ∃ m, n = m + 1 := ⟨n - 1, by omega⟩
    replace ih : Hold _ := ih
    replace hR := rng_s hR
    obtain ⟨g0, g1, g2, g3, hR⟩ := hR
    rw [iter, he]
    clear he
    generalize hK : iter _ _ n = K
    rw [p_cmp_Or_Errno_l0] at h
    revert h
    refine cb_i (fun c1 => ?_) (fun c1 => ?_)
    · intro h
      simp only [go_sem, *]
      subst hK
      refine ih n (s2 + 1)  _ _ _ (by simp only [List.length_cons] at hn; omega) hR ?_ h
      all_goals simp only [go_sem, *]
    · rintro ⟨⟩
      simp only [go_sem, *]
      refine (⟨_, _, rfl, ?_⟩ : Q1_p_cmp_Or_Errno_l0 _ _ _)
      all_goals simp only [go_sem, *]
theorem e_cmp_Or_Errno (L : Nat) (hL : L ≤ 4611686018427387904) (a0 : List Int) (res : Int) (h : p_cmp_Or_Errno L a0 = some res) : evTop Try.prog (G_cmp_Or_Errno L) T_cmp_Or_Errno L 1 100 [.sl 27 (a0.map (D.int .i64))] = some [.int .i64 res] := by
  revert h
  unfold p_cmp_Or_Errno evTop
  simp only [List.map]
  rw [evF_s (fn := Try.f100) (msk := en100.ms) (hT := by rfl) (hb := by rfl)]
  refine rq_i fun c1 => ?_
  refine bnd_i fun o3 ho2 => ?_
  intro h
  simp only [go_sem, *]
  generalize hz4 : iter _ _ _ _ _ = z3
  have hq5 : Q_p_cmp_Or_Errno_l0 a0 o3 z3 := by
    rw [← hz4]
    refine l_p_cmp_Or_Errno_l0 L hL a0 a0 L 0  _ _ _ c1 (rng_0 c1 hL) ?_ ho2
    all_goals simp only [go_sem, *]
  clear hz4 ho2
  rcases o3 with o3_0 | o3_1
  · obtain ⟨_, st4, rfl, rfl⟩ := hq5
    dsimp only at h
    revert h
    rintro ⟨⟩
    simp only [go_sem, *]
  · obtain ⟨_, st5, rfl, rfl⟩ := hq5
    dsimp only at h
    revert h
    rintro ⟨⟩
    simp only [go_sem, *]
noncomputable def s_cmp_Or_Errno (L : Nat) : Ev.Spec := specP (cCons k195 cNil) (fun x => p_cmp_Or_Errno L x.1) (fun r => [.int .i64 r])
theorem s_cmp_Or_Errno_run (L : Nat) (a0 : List Int) : (s_cmp_Or_Errno L).run [.sl 27 (a0.map (D.int .i64))] = (p_cmp_Or_Errno L a0).map fun r => [.int .i64 r] := specP_run (cCons k195 cNil) (fun x => p_cmp_Or_Errno L x.1) (fun r => [.int .i64 r]) (a0, ())
theorem ok_cmp_Or_Errno (L : Nat) (hL : L ≤ 4611686018427387904) : SpecOk Try.prog 100 (s_cmp_Or_Errno L) := specP_ok mixed (Go_cmp_Or_Errno L hL) (To_cmp_Or_Errno L) fun x r h => ⟨L, 1, e_cmp_Or_Errno L hL x.1 r h⟩
def sk_cmp_Or_Errno : Ev.Spec := specK (c := (cCons k195 cNil)) (dCons (dL 27 (dI .i64)) dNil) (fun x => p_cmp_Or_Errno 1000 x.1) (fun r => [.int .i64 r])
theorem okk_cmp_Or_Errno : SpecOk Try.prog 100 sk_cmp_Or_Errno := specK_ok (dCons (dL 27 (dI .i64)) dNil) mixed (Go_cmp_Or_Errno 1000 (by decide)) (To_cmp_Or_Errno 1000) fun x r h => ⟨1000, 1, e_cmp_Or_Errno 1000 (by decide) x.1 r h⟩
end Go.Proofs.Ytnojehmbiceceaa.P
end
section
set_option linter.unusedVariables false
set_option linter.unusedSimpArgs false
set_option maxRecDepth 100000
namespace Go.Proofs.Ytnojehmbiceceaa.E
open Go.Ev
noncomputable def en126 : Entry := ⟨Try.f126, [(1000000, mb 22 0 [4])]⟩
theorem mk126_1000000 (vs : List V) : mask (maskOf en126.ms 1000000) vs = km 22 0 [4] vs := mask_mb _ _ _ _
end Go.Proofs.Ytnojehmbiceceaa.E
end
section
set_option linter.unusedVariables false
set_option linter.unusedSimpArgs false
set_option maxRecDepth 100000
namespace Go.Proofs.Ytnojehmbiceceaa.E
open Go.Ev
noncomputable def en99 : Entry := ⟨Try.f99, [(1000001, mb 37 0 []), (1000000, mb 37 0 [2])]⟩
theorem mk99_1000001 (vs : List V) : mask (maskOf en99.ms 1000001) vs = km 37 0 [] vs := mask_mb _ _ _ _
theorem mk99_1000000 (vs : List V) : mask (maskOf en99.ms 1000000) vs = km 37 0 [2] vs := mask_mb _ _ _ _
end Go.Proofs.Ytnojehmbiceceaa.E
end
section
set_option linter.unusedVariables false
set_option linter.unusedSimpArgs false
set_option maxRecDepth 100000
namespace Go.Proofs.Ytnojehmbiceceaa.P
open Go.Ev Go.IntKind Go.Proofs.Ytnojehmbiceceaa Go.Proofs.Ytnojehmbiceceaa.Ty Go.Proofs.Ytnojehmbiceceaa.E
def p_bound_Check_Quanta (L : Nat) (a0_0 : Int) (a0_1 : Int) (a0_2 : Bool) : Option Int := cb a0_2 (cb (decide (a0_0 = 0)) (cb (decide (a0_1 = 0)) (if (minI a0_0 a0_1) < (-1152921504606846976) then (some 4) else (if (maxI a0_0 a0_1) > 1152921504606846976 then (some 4) else (if a0_0 > a0_1 then (some 11) else (some 0)))) (some 3)) (some 3)) (if (minI a0_0 a0_1) < (-1152921504606846976) then (some 4) else (if (maxI a0_0 a0_1) > 1152921504606846976 then (some 4) else (if a0_0 > a0_1 then (some 11) else (some 0))))
attribute [local go_sem] Ev.putR_s Ev.putR_0 Ev.thenO_s Ev.thenO_0 Ev.seqR_n Ev.seqR_e Ev.seqR_r Ev.seqR_0 Ev.blkR_e Ev.blkR_n Ev.blkR_r Ev.blkR_0 Ev.normR_s Ev.normR_0 Ev.outR_r Ev.outR_n Ev.outR_0 Ev.retS_s Ev.retS_0 Ev.pureO_s Ev.pureO_0 Ev.topR_0 Ev.topR_t Ev.topR_t0 Ev.oneL_0 Ev.oneL_s Ev.topR_d Ev.topR_nils Ev.topR_agg Ev.topR_rs Ev.evOp_move Ev.evOp_assign Ev.evOp_pick Ev.evOp_alloc Ev.evOp_box Ev.evOp_build Ev.evOp_buildSlice Ev.evOp_load Ev.evOp_store Ev.evOp_makeMap Ev.evOp_lookup Ev.evOp_mapUpdate Ev.evOp_insert Ev.evOp_nilCheck Ev.evOp_binOp Ev.evOp_unOp Ev.evOp_convert Ev.evOp_makeFunc Ev.evOp_makeSlice Ev.evOp_slice Ev.evOp_fieldAddr Ev.evOp_field Ev.evOp_indexAddr Ev.evOp_index Ev.evOp_extract Ev.evOp_call Ev.evOp_append Ev.evOp_clear Ev.evOp_len Ev.evOp_min Ev.evOp_max Ev.condR_b Ev.condR_t Ev.evOps_nil Ev.evOps_plain Ev.evOps_guard Ev.runG_eq Ev.skipG_eq Ev.condL_tt Ev.condL_ff Ev.condL_tf Ev.condL_ft Ev.condL_u Ev.condC_t Ev.condC_f Ev.evC_skip Ev.evC_ret Ev.evC_exit Ev.evC_label Ev.evC_region Ev.evC_draw Ev.evC_seq Ev.evC_cond Ev.evC_block Ev.evC_loop Ev.fin_d Ev.fin_nils Ev.fin_agg_ Ev.fin_rs Ev.finS_s Ev.mapO_fin Ev.upd_upd Ev.argv_d Ev.argv_nils Ev.argv_agg Ev.argv_rs Ev.argv_p Ev.fk_low Ev.appendTo_nils Ev.appendTo_rs Ev.consV_d Ev.consV_agg Ev.consV_p Ev.consV_rs Ev.consV_nils Ev.consV_fn Ev.consV_und Ev.consV_jk Ev.consV_grown Ev.topR_grown Ev.len_grown Ev.consV_mp Ev.sameK_i Ev.sameK_s Ev.mget_0 Ev.mget_hit Ev.mget_miss Ev.mput_0 Ev.mput_hit Ev.mput_miss Ev.apartAll Ev.apartL Ev.apartV Ev.freeAll Ev.sel Ev.keyOfV Ev.evLookup Ev.evPut Ev.hintOk Ev.keyOk Ev.consP Ev.lookV Ev.guardV Ev.dstAt Ev.evPure Ev.evStore Ev.evBin Ev.evBinO Ev.evNil Ev.isNilC Ev.evUn Ev.evConv Ev.evSlice Ev.optI Ev.foldI Ev.capsOk Ev.noTup Ev.nth Ev.setN Ev.killAt Ev.pad Ev.V.get Ev.V.put Ev.putD Ev.newBlk Ev.upd Ev.keq Ev.empty Ev.evCall Ev.V.args Ev.argP Ev.callOf Ev.evNilP Ev.isNilP Ev.look Ev.V.view.views Ev.V.view Ev.V.toD Ev.V.toD.V.toDs Ev.V.pure.pures Ev.V.pure Ev.D.flat.flats Ev.D.flat Ev.mkAgg Ev.allD Ev.aggParts Ev.setParts Ev.setElems Ev.getPath Ev.setPath Ev.subL Ev.eqD Ev.eqD.eqDs Ev.and2 Ev.strCut Ev.evalT Ev.constT Ev.evArgs Ev.mask Ev.maskOf Ev.tableOf Ev.compT Ev.resV Ev.retV Ev.mapO Ev.frzO_n Ev.frzO_e Ev.frzO_r Ev.frzO_0 Ev.mb_z Ev.mb_0 Ev.mb_s Ev.frzL_t Ev.frzL_f Ev.frzL_0 Ev.frzT_nils Ev.frzT_rs Ev.frzT_p Ev.frzK_i Ev.keyIn_i Ev.rI_nil Ev.rI_cons Ev.rI_row Ev.rI_app Ev.r_d Ev.r_nils Ev.r_agg Ev.r_rs Ev.r_gl Ev.vw_row Ev.vw_app Ev.appO_s Ev.frzT_gl Ev.allD_gl Ev.killAt_i Ev.tkOne_i Ev.hT_agg Ev.hT_vagg Ev.hT_int Ev.hT_bool Ev.hT_str Ev.hT_sl Ev.hT_ptr Ev.hT_np Ev.hT_p Ev.hT_rs Ev.hT_mp Ev.hT_nils Ev.hT_fn Ev.hT_jk Ev.hT_gl Ev.eO_sl Ev.eO_nils Ev.eO_rs Ev.eT_sl Ev.eT_rs Ev.pL_str Ev.pL_sl Ev.pL_rs Ev.pL_nils Ev.pL_min Ev.pL_max Ev.len_glB Ev.noTup_gl Ev.rowV_len Ev.rowV_nil Ev.rowV_cons Ev.rowV_append Ev.rowV_set Ev.rowV_replicate Ev.nth_row Ev.row_take Ev.row_drop Ev.toDs_row Ev.fin_row Ev.map_row Ev.map_take_ Ev.map_drop_ Ev.Bk_i Ev.GlB_0 Ev.GlB_mk Ev.gl_nil Ev.gl_cons Ev.gl_snoc Ev.gl_setN Ev.appendTo_gl Ev.consV_gl Ev.elems_gl Ev.fin_gl Ev.view_gl Ev.argv_gl Ev.topR_gl Ev.sp_z Ev.sp_0 Ev.sp_s Ev.km_z Ev.km_0 Ev.km_s Ev.beq_toList Ev.nc0 Ev.bq_t Ev.bq_f Ev.bodyN Ev.le_maxRow Int.cast_ofNat_Int IntWalk.i64_in IntWalk.u64_in IntWalk.u8_in beq_self_eq_true Bool.true_beq Bool.false_beq Bool.and_true Bool.true_and Bool.false_and Bool.and_false Bool.and_self Bool.not_true Bool.not_false Bool.not_eq_true cond_true cond_false if_true if_false and_true true_and and_self decide_true decide_false Bool.or_true Bool.true_or Bool.or_false Bool.false_or List.isEmpty List.isEmpty_nil List.size_toArray List.map List.length_map List.length_cons List.length_nil Option.map Option.bind Option.getD Option.isSome List.replicate Bool.false_eq_true implies_true false_implies forall_const Array.toList Array.isEmpty List.append List.nil_append List.cons_append List.drop_zero List.take_length List.take_succ_cons List.take_zero List.take_nil List.getElem?_map List.getElem?_cons_zero List.getElem?_cons_succ List.getElem?_nil List.append_nil eq_self Int.toNat_natCast List.length_append Nat.zero_add Nat.add_zero List.length_replicate Nat.sub_zero Option.map_some Option.map_none Int.le_refl Nat.le_refl Int.natCast_nonneg List.map_append
attribute [local go_sem_proc] Nat.reduceAdd Nat.reduceSub Nat.reduceMul Nat.reduceEqDiff Nat.reduceBEq Nat.reduceLT Nat.reduceLeDiff Nat.reducePow Int.reduceToNat Int.reduceLT Int.reduceLE Int.reduceGT Int.reduceGE Int.reduceEq Int.reduceNeg Int.reduceAdd Int.reduceSub Int.reduceMul reduceCtorEq
attribute [local go_sem_proc ↓] reduceIte
noncomputable def G_bound_Check_Quanta (L : Nat) : Specs := []
noncomputable def T_bound_Check_Quanta : Table := tableOf [(99, en99)]
theorem Go_bound_Check_Quanta (L : Nat) (hL : L ≤ 4611686018427387904) : ∀ g s, Ev.look (G_bound_Check_Quanta L) g = some s → SpecOk Try.prog g s := specs_nil
theorem To_bound_Check_Quanta (L : Nat) : TableOk Try.prog ((G_bound_Check_Quanta L).map (·.1)) T_bound_Check_Quanta := (table_cons Try.func99 (by kernel_rfl) (by kernel_rfl) table_nil)
attribute [local go_sem] Ty.tk4 Ty.ub4 Ty.ek4 Ty.zv4 Ty.by4 Ty.so4 Ty.tk24 Ty.ik24 Ty.ek24 Ty.zv24 Ty.by24 Ty.so24 Ty.tk27 Ty.ik27 Ty.ek27 Ty.zv27 Ty.by27 Ty.so27 Ty.tk35 Ty.ct35 Ty.ek35 Ty.zv35 Ty.by35 Ty.so35 Ty.k35_e E.mk99_1000001 E.mk99_1000000 loopN loops Try.f99
theorem e_bound_Check_Quanta (L : Nat) (hL : L ≤ 4611686018427387904) (a0_0 : Int) (a0_1 : Int) (a0_2 : Bool) (res : Int) (h : p_bound_Check_Quanta L a0_0 a0_1 a0_2 = some res) : evTop Try.prog (G_bound_Check_Quanta L) T_bound_Check_Quanta L 1 99 [.agg 35 [.int .i64 a0_0, .int .i64 a0_1, .bool a0_2]] = some [.int .i64 res] := by
  revert h
  unfold p_bound_Check_Quanta evTop
  simp only [List.map]
  rw [evF_s (fn := Try.f99) (msk := en99.ms) (hT := by rfl) (hb := by rfl)]
  refine cb_i (fun c1 => ?_) (fun c1 => ?_)
  · refine cb_i (fun c2 => ?_) (fun c2 => ?_)
    · refine cb_i (fun c3 => ?_) (fun c3 => ?_)
      · refine ite_i (fun c4 => ?_) (fun c4 => ?_)
        · rintro ⟨⟩
          simp only [go_sem, *]
        · refine ite_i (fun c5 => ?_) (fun c5 => ?_)
          · rintro ⟨⟩
            simp only [go_sem, *]
          · refine ite_i (fun c6 => ?_) (fun c6 => ?_)
            · rintro ⟨⟩
              simp only [go_sem, *]
            · rintro ⟨⟩
              simp only [go_sem, *]
      · rintro ⟨⟩
        simp only [go_sem, *]
    · rintro ⟨⟩
      simp only [go_sem, *]
  · refine ite_i (fun c7 => ?_) (fun c7 => ?_)
    · rintro ⟨⟩
      simp only [go_sem, *]
    · refine ite_i (fun c8 => ?_) (fun c8 => ?_)
      · rintro ⟨⟩
        simp only [go_sem, *]
      · refine ite_i (fun c9 => ?_) (fun c9 => ?_)
        · rintro ⟨⟩
          simp only [go_sem, *]
        · rintro ⟨⟩
          simp only [go_sem, *]
noncomputable def s_bound_Check_Quanta (L : Nat) : Ev.Spec := specP (cCons k35 cNil) (fun x => p_bound_Check_Quanta L x.1.1 x.1.2.1 x.1.2.2.1) (fun r => [.int .i64 r])
theorem s_bound_Check_Quanta_run (L : Nat) (a0_0 : Int) (a0_1 : Int) (a0_2 : Bool) : (s_bound_Check_Quanta L).run [.agg 35 [.int .i64 a0_0, .int .i64 a0_1, .bool a0_2]] = (p_bound_Check_Quanta L a0_0 a0_1 a0_2).map fun r => [.int .i64 r] := specP_run (cCons k35 cNil) (fun x => p_bound_Check_Quanta L x.1.1 x.1.2.1 x.1.2.2.1) (fun r => [.int .i64 r]) ((a0_0, a0_1, a0_2, ()), ())
theorem ok_bound_Check_Quanta (L : Nat) (hL : L ≤ 4611686018427387904) : SpecOk Try.prog 99 (s_bound_Check_Quanta L) := specP_ok mixed (Go_bound_Check_Quanta L hL) (To_bound_Check_Quanta L) fun x r h => ⟨L, 1, e_bound_Check_Quanta L hL x.1.1 x.1.2.1 x.1.2.2.1 r h⟩
end Go.Proofs.Ytnojehmbiceceaa.P
end
section
set_option linter.unusedVariables false
set_option linter.unusedSimpArgs false
set_option maxRecDepth 100000
namespace Go.Proofs.Ytnojehmbiceceaa.P
open Go.Ev Go.IntKind Go.Proofs.Ytnojehmbiceceaa Go.Proofs.Ytnojehmbiceceaa.Ty Go.Proofs.Ytnojehmbiceceaa.E
def p_catalog_ends_Quanta (L : Nat) (a0_0 : Int) (a0_1 : Int) (a0_2 : Bool) (a1 : Int) : Option Int := bnd (p_bound_Check_Quanta L a0_0 a0_1 a0_2) fun r1 => cb (decide (r1 = 0)) (if a0_0 < (i64.wrap (0 - a1)) then (some 4) else (if a0_1 > a1 then (some 4) else (some 0))) (some r1)
attribute [local go_sem] Ev.putR_s Ev.putR_0 Ev.thenO_s Ev.thenO_0 Ev.seqR_n Ev.seqR_e Ev.seqR_r Ev.seqR_0 Ev.blkR_e Ev.blkR_n Ev.blkR_r Ev.blkR_0 Ev.normR_s Ev.normR_0 Ev.outR_r Ev.outR_n Ev.outR_0 Ev.retS_s Ev.retS_0 Ev.pureO_s Ev.pureO_0 Ev.topR_0 Ev.topR_t Ev.topR_t0 Ev.oneL_0 Ev.oneL_s Ev.topR_d Ev.topR_nils Ev.topR_agg Ev.topR_rs Ev.evOp_move Ev.evOp_assign Ev.evOp_pick Ev.evOp_alloc Ev.evOp_box Ev.evOp_build Ev.evOp_buildSlice Ev.evOp_load Ev.evOp_store Ev.evOp_makeMap Ev.evOp_lookup Ev.evOp_mapUpdate Ev.evOp_insert Ev.evOp_nilCheck Ev.evOp_binOp Ev.evOp_unOp Ev.evOp_convert Ev.evOp_makeFunc Ev.evOp_makeSlice Ev.evOp_slice Ev.evOp_fieldAddr Ev.evOp_field Ev.evOp_indexAddr Ev.evOp_index Ev.evOp_extract Ev.evOp_call Ev.evOp_append Ev.evOp_clear Ev.evOp_len Ev.evOp_min Ev.evOp_max Ev.condR_b Ev.condR_t Ev.evOps_nil Ev.evOps_plain Ev.evOps_guard Ev.runG_eq Ev.skipG_eq Ev.condL_tt Ev.condL_ff Ev.condL_tf Ev.condL_ft Ev.condL_u Ev.condC_t Ev.condC_f Ev.evC_skip Ev.evC_ret Ev.evC_exit Ev.evC_label Ev.evC_region Ev.evC_draw Ev.evC_seq Ev.evC_cond Ev.evC_block Ev.evC_loop Ev.fin_d Ev.fin_nils Ev.fin_agg_ Ev.fin_rs Ev.finS_s Ev.mapO_fin Ev.upd_upd Ev.argv_d Ev.argv_nils Ev.argv_agg Ev.argv_rs Ev.argv_p Ev.fk_low Ev.appendTo_nils Ev.appendTo_rs Ev.consV_d Ev.consV_agg Ev.consV_p Ev.consV_rs Ev.consV_nils Ev.consV_fn Ev.consV_und Ev.consV_jk Ev.consV_grown Ev.topR_grown Ev.len_grown Ev.consV_mp Ev.sameK_i Ev.sameK_s Ev.mget_0 Ev.mget_hit Ev.mget_miss Ev.mput_0 Ev.mput_hit Ev.mput_miss Ev.apartAll Ev.apartL Ev.apartV Ev.freeAll Ev.sel Ev.keyOfV Ev.evLookup Ev.evPut Ev.hintOk Ev.keyOk Ev.consP Ev.lookV Ev.guardV Ev.dstAt Ev.evPure Ev.evStore Ev.evBin Ev.evBinO Ev.evNil Ev.isNilC Ev.evUn Ev.evConv Ev.evSlice Ev.optI Ev.foldI Ev.capsOk Ev.noTup Ev.nth Ev.setN Ev.killAt Ev.pad Ev.V.get Ev.V.put Ev.putD Ev.newBlk Ev.upd Ev.keq Ev.empty Ev.evCall Ev.V.args Ev.argP Ev.callOf Ev.evNilP Ev.isNilP Ev.look Ev.V.view.views Ev.V.view Ev.V.toD Ev.V.toD.V.toDs Ev.V.pure.pures Ev.V.pure Ev.D.flat.flats Ev.D.flat Ev.mkAgg Ev.allD Ev.aggParts Ev.setParts Ev.setElems Ev.getPath Ev.setPath Ev.subL Ev.eqD Ev.eqD.eqDs Ev.and2 Ev.strCut Ev.evalT Ev.constT Ev.evArgs Ev.mask Ev.maskOf Ev.tableOf Ev.compT Ev.resV Ev.retV Ev.mapO Ev.frzO_n Ev.frzO_e Ev.frzO_r Ev.frzO_0 Ev.mb_z Ev.mb_0 Ev.mb_s Ev.frzL_t Ev.frzL_f Ev.frzL_0 Ev.frzT_nils Ev.frzT_rs Ev.frzT_p Ev.frzK_i Ev.keyIn_i Ev.rI_nil Ev.rI_cons Ev.rI_row Ev.rI_app Ev.r_d Ev.r_nils Ev.r_agg Ev.r_rs Ev.r_gl Ev.vw_row Ev.vw_app Ev.appO_s Ev.frzT_gl Ev.allD_gl Ev.killAt_i Ev.tkOne_i Ev.hT_agg Ev.hT_vagg Ev.hT_int Ev.hT_bool Ev.hT_str Ev.hT_sl Ev.hT_ptr Ev.hT_np Ev.hT_p Ev.hT_rs Ev.hT_mp Ev.hT_nils Ev.hT_fn Ev.hT_jk Ev.hT_gl Ev.eO_sl Ev.eO_nils Ev.eO_rs Ev.eT_sl Ev.eT_rs Ev.pL_str Ev.pL_sl Ev.pL_rs Ev.pL_nils Ev.pL_min Ev.pL_max Ev.len_glB Ev.noTup_gl Ev.rowV_len Ev.rowV_nil Ev.rowV_cons Ev.rowV_append Ev.rowV_set Ev.rowV_replicate Ev.nth_row Ev.row_take Ev.row_drop Ev.toDs_row Ev.fin_row Ev.map_row Ev.map_take_ Ev.map_drop_ Ev.Bk_i Ev.GlB_0 Ev.GlB_mk Ev.gl_nil Ev.gl_cons Ev.gl_snoc Ev.gl_setN Ev.appendTo_gl Ev.consV_gl Ev.elems_gl Ev.fin_gl Ev.view_gl Ev.argv_gl Ev.topR_gl Ev.sp_z Ev.sp_0 Ev.sp_s Ev.km_z Ev.km_0 Ev.km_s Ev.beq_toList Ev.nc0 Ev.bq_t Ev.bq_f Ev.bodyN Ev.le_maxRow Int.cast_ofNat_Int IntWalk.i64_in IntWalk.u64_in IntWalk.u8_in beq_self_eq_true Bool.true_beq Bool.false_beq Bool.and_true Bool.true_and Bool.false_and Bool.and_false Bool.and_self Bool.not_true Bool.not_false Bool.not_eq_true cond_true cond_false if_true if_false and_true true_and and_self decide_true decide_false Bool.or_true Bool.true_or Bool.or_false Bool.false_or List.isEmpty List.isEmpty_nil List.size_toArray List.map List.length_map List.length_cons List.length_nil Option.map Option.bind Option.getD Option.isSome List.replicate Bool.false_eq_true implies_true false_implies forall_const Array.toList Array.isEmpty List.append List.nil_append List.cons_append List.drop_zero List.take_length List.take_succ_cons List.take_zero List.take_nil List.getElem?_map List.getElem?_cons_zero List.getElem?_cons_succ List.getElem?_nil List.append_nil eq_self Int.toNat_natCast List.length_append Nat.zero_add Nat.add_zero List.length_replicate Nat.sub_zero Option.map_some Option.map_none Int.le_refl Nat.le_refl Int.natCast_nonneg List.map_append
attribute [local go_sem_proc] Nat.reduceAdd Nat.reduceSub Nat.reduceMul Nat.reduceEqDiff Nat.reduceBEq Nat.reduceLT Nat.reduceLeDiff Nat.reducePow Int.reduceToNat Int.reduceLT Int.reduceLE Int.reduceGT Int.reduceGE Int.reduceEq Int.reduceNeg Int.reduceAdd Int.reduceSub Int.reduceMul reduceCtorEq
attribute [local go_sem_proc ↓] reduceIte
noncomputable def G_catalog_ends_Quanta (L : Nat) : Specs := [(99, s_bound_Check_Quanta L)]
noncomputable def T_catalog_ends_Quanta : Table := tableOf [(126, en126)]
theorem Go_catalog_ends_Quanta (L : Nat) (hL : L ≤ 4611686018427387904) : ∀ g s, Ev.look (G_catalog_ends_Quanta L) g = some s → SpecOk Try.prog g s := (specs_cons (ok_bound_Check_Quanta L hL) specs_nil)
theorem To_catalog_ends_Quanta (L : Nat) : TableOk Try.prog ((G_catalog_ends_Quanta L).map (·.1)) T_catalog_ends_Quanta := (table_cons Try.func126 (by kernel_rfl) (by kernel_rfl) table_nil)
theorem lk_catalog_ends_Quanta_99 (L : Nat) : Ev.look (G_catalog_ends_Quanta L) 99 = some (s_bound_Check_Quanta L) := nr rfl
attribute [local go_sem] Ty.tk4 Ty.ub4 Ty.ek4 Ty.zv4 Ty.by4 Ty.so4 Ty.tk24 Ty.ik24 Ty.ek24 Ty.zv24 Ty.by24 Ty.so24 Ty.tk27 Ty.ik27 Ty.ek27 Ty.zv27 Ty.by27 Ty.so27 Ty.tk35 Ty.ct35 Ty.ek35 Ty.zv35 Ty.by35 Ty.so35 Ty.k35_e E.mk126_1000000 lk_catalog_ends_Quanta_99 s_bound_Check_Quanta_run loopN loops Try.f126
theorem e_catalog_ends_Quanta (L : Nat) (hL : L ≤ 4611686018427387904) (a0_0 : Int) (a0_1 : Int) (a0_2 : Bool) (a1 : Int) (res : Int) (h : p_catalog_ends_Quanta L a0_0 a0_1 a0_2 a1 = some res) : evTop Try.prog (G_catalog_ends_Quanta L) T_catalog_ends_Quanta L 1 126 [.agg 35 [.int .i64 a0_0, .int .i64 a0_1, .bool a0_2], .int .i64 a1] = some [.int .i64 res] := by
  revert h
  unfold p_catalog_ends_Quanta evTop
  simp only [List.map]
  rw [evF_s (fn := Try.f126) (msk := en126.ms) (hT := by rfl) (hb := by rfl)]
  refine bnd_i fun r1 c1 => ?_
  refine cb_i (fun c2 => ?_) (fun c2 => ?_)
  · refine ite_i (fun c3 => ?_) (fun c3 => ?_)
    · rintro ⟨⟩
      simp only [go_sem, *]
    · refine ite_i (fun c4 => ?_) (fun c4 => ?_)
      · rintro ⟨⟩
        simp only [go_sem, *]
      · rintro ⟨⟩
        simp only [go_sem, *]
  · rintro ⟨⟩
    simp only [go_sem, *]
noncomputable def s_catalog_ends_Quanta (L : Nat) : Ev.Spec := specP (cCons k35 (cCons (cI .i64) cNil)) (fun x => p_catalog_ends_Quanta L x.1.1 x.1.2.1 x.1.2.2.1 x.2.1) (fun r => [.int .i64 r])
theorem s_catalog_ends_Quanta_run (L : Nat) (a0_0 : Int) (a0_1 : Int) (a0_2 : Bool) (a1 : Int) : (s_catalog_ends_Quanta L).run [.agg 35 [.int .i64 a0_0, .int .i64 a0_1, .bool a0_2], .int .i64 a1] = (p_catalog_ends_Quanta L a0_0 a0_1 a0_2 a1).map fun r => [.int .i64 r] := specP_run (cCons k35 (cCons (cI .i64) cNil)) (fun x => p_catalog_ends_Quanta L x.1.1 x.1.2.1 x.1.2.2.1 x.2.1) (fun r => [.int .i64 r]) ((a0_0, a0_1, a0_2, ()), a1, ())
theorem ok_catalog_ends_Quanta (L : Nat) (hL : L ≤ 4611686018427387904) : SpecOk Try.prog 126 (s_catalog_ends_Quanta L) := specP_ok mixed (Go_catalog_ends_Quanta L hL) (To_catalog_ends_Quanta L) fun x r h => ⟨L, 1, e_catalog_ends_Quanta L hL x.1.1 x.1.2.1 x.1.2.2.1 x.2.1 r h⟩
def sk_catalog_ends_Quanta : Ev.Spec := specK (c := (cCons k35 (cCons (cI .i64) cNil))) (dCons (dA 35 (dCons (dI .i64) (dCons (dI .i64) (dCons dB dNil)))) (dCons (dI .i64) dNil)) (fun x => p_catalog_ends_Quanta 1000 x.1.1 x.1.2.1 x.1.2.2.1 x.2.1) (fun r => [.int .i64 r])
theorem okk_catalog_ends_Quanta : SpecOk Try.prog 126 sk_catalog_ends_Quanta := specK_ok (dCons (dA 35 (dCons (dI .i64) (dCons (dI .i64) (dCons dB dNil)))) (dCons (dI .i64) dNil)) mixed (Go_catalog_ends_Quanta 1000 (by decide)) (To_catalog_ends_Quanta 1000) fun x r h => ⟨1000, 1, e_catalog_ends_Quanta 1000 (by decide) x.1.1 x.1.2.1 x.1.2.2.1 x.2.1 r h⟩
end Go.Proofs.Ytnojehmbiceceaa.P
end
section
set_option linter.unusedVariables false
set_option linter.unusedSimpArgs false
set_option maxRecDepth 100000
namespace Go.Proofs.Ytnojehmbiceceaa.E
open Go.Ev
noncomputable def en127 : Entry := ⟨Try.f127, [(1000000, mb 22 0 [4])]⟩
theorem mk127_1000000 (vs : List V) : mask (maskOf en127.ms 1000000) vs = km 22 0 [4] vs := mask_mb _ _ _ _
end Go.Proofs.Ytnojehmbiceceaa.E
end
section
set_option linter.unusedVariables false
set_option linter.unusedSimpArgs false
set_option maxRecDepth 100000
namespace Go.Proofs.Ytnojehmbiceceaa.E
open Go.Ev
noncomputable def en194 : Entry := ⟨Try.f194, [(1000001, mb 37 0 []), (1000000, mb 37 0 [2])]⟩
theorem mk194_1000001 (vs : List V) : mask (maskOf en194.ms 1000001) vs = km 37 0 [] vs := mask_mb _ _ _ _
theorem mk194_1000000 (vs : List V) : mask (maskOf en194.ms 1000000) vs = km 37 0 [2] vs := mask_mb _ _ _ _
end Go.Proofs.Ytnojehmbiceceaa.E
end
section
set_option linter.unusedVariables false
set_option linter.unusedSimpArgs false
set_option maxRecDepth 100000
namespace Go.Proofs.Ytnojehmbiceceaa.P
open Go.Ev Go.IntKind Go.Proofs.Ytnojehmbiceceaa Go.Proofs.Ytnojehmbiceceaa.Ty Go.Proofs.Ytnojehmbiceceaa.E
def p_bound_Check_Tick (L : Nat) (a0_0 : Int) (a0_1 : Int) (a0_2 : Bool) : Option Int := cb a0_2 (cb (decide (a0_0 = 0)) (cb (decide (a0_1 = 0)) (if (minI a0_0 a0_1) < (-1152921504606846976) then (some 4) else (if (maxI a0_0 a0_1) > 1152921504606846976 then (some 4) else (if a0_0 > a0_1 then (some 11) else (some 0)))) (some 3)) (some 3)) (if (minI a0_0 a0_1) < (-1152921504606846976) then (some 4) else (if (maxI a0_0 a0_1) > 1152921504606846976 then (some 4) else (if a0_0 > a0_1 then (some 11) else (some 0))))
attribute [local go_sem] Ev.putR_s Ev.putR_0 Ev.thenO_s Ev.thenO_0 Ev.seqR_n Ev.seqR_e Ev.seqR_r Ev.seqR_0 Ev.blkR_e Ev.blkR_n Ev.blkR_r Ev.blkR_0 Ev.normR_s Ev.normR_0 Ev.outR_r Ev.outR_n Ev.outR_0 Ev.retS_s Ev.retS_0 Ev.pureO_s Ev.pureO_0 Ev.topR_0 Ev.topR_t Ev.topR_t0 Ev.oneL_0 Ev.oneL_s Ev.topR_d Ev.topR_nils Ev.topR_agg Ev.topR_rs Ev.evOp_move Ev.evOp_assign Ev.evOp_pick Ev.evOp_alloc Ev.evOp_box Ev.evOp_build Ev.evOp_buildSlice Ev.evOp_load Ev.evOp_store Ev.evOp_makeMap Ev.evOp_lookup Ev.evOp_mapUpdate Ev.evOp_insert Ev.evOp_nilCheck Ev.evOp_binOp Ev.evOp_unOp Ev.evOp_convert Ev.evOp_makeFunc Ev.evOp_makeSlice Ev.evOp_slice Ev.evOp_fieldAddr Ev.evOp_field Ev.evOp_indexAddr Ev.evOp_index Ev.evOp_extract Ev.evOp_call Ev.evOp_append Ev.evOp_clear Ev.evOp_len Ev.evOp_min Ev.evOp_max Ev.condR_b Ev.condR_t Ev.evOps_nil Ev.evOps_plain Ev.evOps_guard Ev.runG_eq Ev.skipG_eq Ev.condL_tt Ev.condL_ff Ev.condL_tf Ev.condL_ft Ev.condL_u Ev.condC_t Ev.condC_f Ev.evC_skip Ev.evC_ret Ev.evC_exit Ev.evC_label Ev.evC_region Ev.evC_draw Ev.evC_seq Ev.evC_cond Ev.evC_block Ev.evC_loop Ev.fin_d Ev.fin_nils Ev.fin_agg_ Ev.fin_rs Ev.finS_s Ev.mapO_fin Ev.upd_upd Ev.argv_d Ev.argv_nils Ev.argv_agg Ev.argv_rs Ev.argv_p Ev.fk_low Ev.appendTo_nils Ev.appendTo_rs Ev.consV_d Ev.consV_agg Ev.consV_p Ev.consV_rs Ev.consV_nils Ev.consV_fn Ev.consV_und Ev.consV_jk Ev.consV_grown Ev.topR_grown Ev.len_grown Ev.consV_mp Ev.sameK_i Ev.sameK_s Ev.mget_0 Ev.mget_hit Ev.mget_miss Ev.mput_0 Ev.mput_hit Ev.mput_miss Ev.apartAll Ev.apartL Ev.apartV Ev.freeAll Ev.sel Ev.keyOfV Ev.evLookup Ev.evPut Ev.hintOk Ev.keyOk Ev.consP Ev.lookV Ev.guardV Ev.dstAt Ev.evPure Ev.evStore Ev.evBin Ev.evBinO Ev.evNil Ev.isNilC Ev.evUn Ev.evConv Ev.evSlice Ev.optI Ev.foldI Ev.capsOk Ev.noTup Ev.nth Ev.setN Ev.killAt Ev.pad Ev.V.get Ev.V.put Ev.putD Ev.newBlk Ev.upd Ev.keq Ev.empty Ev.evCall Ev.V.args Ev.argP Ev.callOf Ev.evNilP Ev.isNilP Ev.look Ev.V.view.views Ev.V.view Ev.V.toD Ev.V.toD.V.toDs Ev.V.pure.pures Ev.V.pure Ev.D.flat.flats Ev.D.flat Ev.mkAgg Ev.allD Ev.aggParts Ev.setParts Ev.setElems Ev.getPath Ev.setPath Ev.subL Ev.eqD Ev.eqD.eqDs Ev.and2 Ev.strCut Ev.evalT Ev.constT Ev.evArgs Ev.mask Ev.maskOf Ev.tableOf Ev.compT Ev.resV Ev.retV Ev.mapO Ev.frzO_n Ev.frzO_e Ev.frzO_r Ev.frzO_0 Ev.mb_z Ev.mb_0 Ev.mb_s Ev.frzL_t Ev.frzL_f Ev.frzL_0 Ev.frzT_nils Ev.frzT_rs Ev.frzT_p Ev.frzK_i Ev.keyIn_i Ev.rI_nil Ev.rI_cons Ev.rI_row Ev.rI_app Ev.r_d Ev.r_nils Ev.r_agg Ev.r_rs Ev.r_gl Ev.vw_row Ev.vw_app Ev.appO_s Ev.frzT_gl Ev.allD_gl Ev.killAt_i Ev.tkOne_i Ev.hT_agg Ev.hT_vagg Ev.hT_int Ev.hT_bool Ev.hT_str Ev.hT_sl Ev.hT_ptr Ev.hT_np Ev.hT_p Ev.hT_rs Ev.hT_mp Ev.hT_nils Ev.hT_fn Ev.hT_jk Ev.hT_gl Ev.eO_sl Ev.eO_nils Ev.eO_rs Ev.eT_sl Ev.eT_rs Ev.pL_str Ev.pL_sl Ev.pL_rs Ev.pL_nils Ev.pL_min Ev.pL_max Ev.len_glB Ev.noTup_gl Ev.rowV_len Ev.rowV_nil Ev.rowV_cons Ev.rowV_append Ev.rowV_set Ev.rowV_replicate Ev.nth_row Ev.row_take Ev.row_drop Ev.toDs_row Ev.fin_row Ev.map_row Ev.map_take_ Ev.map_drop_ Ev.Bk_i Ev.GlB_0 Ev.GlB_mk Ev.gl_nil Ev.gl_cons Ev.gl_snoc Ev.gl_setN Ev.appendTo_gl Ev.consV_gl Ev.elems_gl Ev.fin_gl Ev.view_gl Ev.argv_gl Ev.topR_gl Ev.sp_z Ev.sp_0 Ev.sp_s Ev.km_z Ev.km_0 Ev.km_s Ev.beq_toList Ev.nc0 Ev.bq_t Ev.bq_f Ev.bodyN Ev.le_maxRow Int.cast_ofNat_Int IntWalk.i64_in IntWalk.u64_in IntWalk.u8_in beq_self_eq_true Bool.true_beq Bool.false_beq Bool.and_true Bool.true_and Bool.false_and Bool.and_false Bool.and_self Bool.not_true Bool.not_false Bool.not_eq_true cond_true cond_false if_true if_false and_true true_and and_self decide_true decide_false Bool.or_true Bool.true_or Bool.or_false Bool.false_or List.isEmpty List.isEmpty_nil List.size_toArray List.map List.length_map List.length_cons List.length_nil Option.map Option.bind Option.getD Option.isSome List.replicate Bool.false_eq_true implies_true false_implies forall_const Array.toList Array.isEmpty List.append List.nil_append List.cons_append List.drop_zero List.take_length List.take_succ_cons List.take_zero List.take_nil List.getElem?_map List.getElem?_cons_zero List.getElem?_cons_succ List.getElem?_nil List.append_nil eq_self Int.toNat_natCast List.length_append Nat.zero_add Nat.add_zero List.length_replicate Nat.sub_zero Option.map_some Option.map_none Int.le_refl Nat.le_refl Int.natCast_nonneg List.map_append
attribute [local go_sem_proc] Nat.reduceAdd Nat.reduceSub Nat.reduceMul Nat.reduceEqDiff Nat.reduceBEq Nat.reduceLT Nat.reduceLeDiff Nat.reducePow Int.reduceToNat Int.reduceLT Int.reduceLE Int.reduceGT Int.reduceGE Int.reduceEq Int.reduceNeg Int.reduceAdd Int.reduceSub Int.reduceMul reduceCtorEq
attribute [local go_sem_proc ↓] reduceIte
noncomputable def G_bound_Check_Tick (L : Nat) : Specs := []
noncomputable def T_bound_Check_Tick : Table := tableOf [(194, en194)]
theorem Go_bound_Check_Tick (L : Nat) (hL : L ≤ 4611686018427387904) : ∀ g s, Ev.look (G_bound_Check_Tick L) g = some s → SpecOk Try.prog g s := specs_nil
theorem To_bound_Check_Tick (L : Nat) : TableOk Try.prog ((G_bound_Check_Tick L).map (·.1)) T_bound_Check_Tick := (table_cons Try.func194 (by kernel_rfl) (by kernel_rfl) table_nil)
attribute [local go_sem] Ty.tk4 Ty.ub4 Ty.ek4 Ty.zv4 Ty.by4 Ty.so4 Ty.tk27 Ty.ik27 Ty.ek27 Ty.zv27 Ty.by27 Ty.so27 Ty.tk72 Ty.ik72 Ty.ek72 Ty.zv72 Ty.by72 Ty.so72 Ty.tk87 Ty.ct87 Ty.ek87 Ty.zv87 Ty.by87 Ty.so87 Ty.k87_e E.mk194_1000001 E.mk194_1000000 loopN loops Try.f194
theorem e_bound_Check_Tick (L : Nat) (hL : L ≤ 4611686018427387904) (a0_0 : Int) (a0_1 : Int) (a0_2 : Bool) (res : Int) (h : p_bound_Check_Tick L a0_0 a0_1 a0_2 = some res) : evTop Try.prog (G_bound_Check_Tick L) T_bound_Check_Tick L 1 194 [.agg 87 [.int .i64 a0_0, .int .i64 a0_1, .bool a0_2]] = some [.int .i64 res] := by
  revert h
  unfold p_bound_Check_Tick evTop
  simp only [List.map]
  rw [evF_s (fn := Try.f194) (msk := en194.ms) (hT := by rfl) (hb := by rfl)]
  refine cb_i (fun c1 => ?_) (fun c1 => ?_)
  · refine cb_i (fun c2 => ?_) (fun c2 => ?_)
    · refine cb_i (fun c3 => ?_) (fun c3 => ?_)
      · refine ite_i (fun c4 => ?_) (fun c4 => ?_)
        · rintro ⟨⟩
          simp only [go_sem, *]
        · refine ite_i (fun c5 => ?_) (fun c5 => ?_)
          · rintro ⟨⟩
            simp only [go_sem, *]
          · refine ite_i (fun c6 => ?_) (fun c6 => ?_)
            · rintro ⟨⟩
              simp only [go_sem, *]
            · rintro ⟨⟩
              simp only [go_sem, *]
      · rintro ⟨⟩
        simp only [go_sem, *]
    · rintro ⟨⟩
      simp only [go_sem, *]
  · refine ite_i (fun c7 => ?_) (fun c7 => ?_)
    · rintro ⟨⟩
      simp only [go_sem, *]
    · refine ite_i (fun c8 => ?_) (fun c8 => ?_)
      · rintro ⟨⟩
        simp only [go_sem, *]
      · refine ite_i (fun c9 => ?_) (fun c9 => ?_)
        · rintro ⟨⟩
          simp only [go_sem, *]
        · rintro ⟨⟩
          simp only [go_sem, *]
noncomputable def s_bound_Check_Tick (L : Nat) : Ev.Spec := specP (cCons k87 cNil) (fun x => p_bound_Check_Tick L x.1.1 x.1.2.1 x.1.2.2.1) (fun r => [.int .i64 r])
theorem s_bound_Check_Tick_run (L : Nat) (a0_0 : Int) (a0_1 : Int) (a0_2 : Bool) : (s_bound_Check_Tick L).run [.agg 87 [.int .i64 a0_0, .int .i64 a0_1, .bool a0_2]] = (p_bound_Check_Tick L a0_0 a0_1 a0_2).map fun r => [.int .i64 r] := specP_run (cCons k87 cNil) (fun x => p_bound_Check_Tick L x.1.1 x.1.2.1 x.1.2.2.1) (fun r => [.int .i64 r]) ((a0_0, a0_1, a0_2, ()), ())
theorem ok_bound_Check_Tick (L : Nat) (hL : L ≤ 4611686018427387904) : SpecOk Try.prog 194 (s_bound_Check_Tick L) := specP_ok mixed (Go_bound_Check_Tick L hL) (To_bound_Check_Tick L) fun x r h => ⟨L, 1, e_bound_Check_Tick L hL x.1.1 x.1.2.1 x.1.2.2.1 r h⟩
end Go.Proofs.Ytnojehmbiceceaa.P
end
