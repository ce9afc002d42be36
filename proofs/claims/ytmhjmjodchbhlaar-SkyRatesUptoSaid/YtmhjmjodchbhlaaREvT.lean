/- More rewriting rules of the evaluator: rows that grow, results. -/
import Derived.Test.YtmhjmjodchbhlaaREvS
set_option linter.unusedVariables false
set_option linter.unusedSimpArgs false
namespace Go.Ev
/-! ### a row that grows by appends -/
def grown (e : TypeId) (k : Key) : Nat → V
  | 0 => .nils e
  | n + 1 => .rs e k (n + 1) 0 (n + 1) true
def GrownB (b : Blk) (e : TypeId) (vs : List V) : Prop := (vs = [] → b.ver = 0) ∧ (vs ≠ [] → b = ⟨vs.length, e, vs, true⟩)
theorem appendTo_g {P : Program} {lv : Nat} {d : Tmp} {e : TypeId} {vs new : List V} {n : Nat} (hn : vs.length = n) (h1 : new.length = 1) (hb : n + 1 ≤ maxRow) (hm : (n + 1) * P.bytesOf e ≤ maxRow) (st : Store) (h : GrownB (st (lv, d)) e vs) :
    appendTo P lv d st e (grown e (lv, d) n) new = some (grown e (lv, d) (n + 1), upd st (lv, d) ⟨n + 1, e, vs ++ new, true⟩) := by
  cases n with
  | zero =>
    have hv : vs = [] := List.eq_nil_of_length_eq_zero hn
    subst hv
    have := h.1 rfl
    simp only [grown, appendTo, h1, newBlk, this]
    rw [if_pos ⟨trivial, by simpa using hm⟩]
    simp
  | succ n =>
    have hv : vs ≠ [] := by intro e; subst e; simp at hn
    have := h.2 hv
    simp only [grown, appendTo, this]
    rw [if_pos ⟨hn, trivial, trivial, trivial, hn.symm, trivial, by rw [h1]; exact hb, by rw [h1]; exact hm⟩, h1]
/-- An append to a row that another append made. -/
theorem appendTo_k {P : Program} {lv : Nat} {d : Tmp} {e : TypeId} {k : Key} {vs new : List V} {n : Nat} (hn : vs.length = n) (h0 : n = 0 → k = (lv, d)) (h1 : new.length = 1) (hb : n + 1 ≤ maxRow) (hm : (n + 1) * P.bytesOf e ≤ maxRow) (st : Store) (h : GrownB (st k) e vs) :
    appendTo P lv d st e (grown e k n) new = some (grown e k (n + 1), upd st k ⟨n + 1, e, vs ++ new, true⟩) := by
  cases n with
  | zero => have := h0 rfl; subst this; exact appendTo_g hn h1 hb hm st h
  | succ n =>
    have hv : vs ≠ [] := by intro e; subst e; simp at hn
    have := h.2 hv
    simp only [grown, appendTo, this]
    rw [if_pos ⟨hn, trivial, trivial, trivial, hn.symm, trivial, by rw [h1]; exact hb, by rw [h1]; exact hm⟩, h1]
theorem appendTo_nils (P : Program) (lv : Nat) (d : Tmp) (st : Store) (e e2 : TypeId) (new : List V) : appendTo P lv d st e (.nils e2) new = if e2 = e ∧ new.length * P.bytesOf e ≤ maxRow then some (.rs e (lv, d) ((st (lv, d)).ver + 1) 0 new.length true, newBlk st (lv, d) e new) else none := nr rfl
theorem appendTo_rs (P : Program) (lv : Nat) (d : Tmp) (st : Store) (e er : TypeId) (k : Key) (ver off len : Nat) (full : Bool) (new : List V) : appendTo P lv d st e (.rs er k ver off len full) new = if (st k).ver = ver ∧ (st k).live = true ∧ er = e ∧ off = 0 ∧ len = (st k).vs.length ∧ full = true ∧ len + new.length ≤ maxRow ∧ (len + new.length) * P.bytesOf e ≤ maxRow then
    some (.rs e k (ver + 1) 0 (len + new.length) true, upd st k ⟨ver + 1, e, (st k).vs ++ new, true⟩) else none := nr rfl
theorem GrownB_put (e : TypeId) (vs : List V) (n : Nat) (hn : vs.length = n + 1) : GrownB ⟨n + 1, e, vs, true⟩ e vs := ⟨fun h => by subst h; simp at hn, fun _ => by rw [hn]⟩
theorem GrownB_0 {b : Blk} (e : TypeId) (h : b.ver = 0) : GrownB b e [] := ⟨fun _ => h, fun h => absurd rfl h⟩
theorem elems_grown {st : Store} {e : TypeId} {k : Key} {vs : List V} {n : Nat} (hn : vs.length = n) (h : GrownB (st k) e vs) : elemsOf st (grown e k n) = some (e, vs) := by
  cases n with
  | zero => have hv : vs = [] := List.eq_nil_of_length_eq_zero hn; subst hv; rfl
  | succ n =>
    have hv : vs ≠ [] := by intro e; subst e; simp at hn
    simp only [grown, elemsOf, h.2 hv]
    rw [if_pos ⟨hn, trivial, by omega⟩, List.drop_zero, List.take_of_length_le (by omega)]
theorem fin_grown {st : Store} {e : TypeId} {k : Key} {vs : List V} {n m : Nat} (hn : vs.length = n) (h : GrownB (st k) e vs) : V.fin st (m + 1) (grown e k n) = (mapO (V.fin st m) vs).map (D.sl e) := by
  have he := elems_grown hn h
  cases n with
  | zero => have hv : vs = [] := List.eq_nil_of_length_eq_zero hn; subst hv; rfl
  | succ n =>
    simp only [grown] at he ⊢
    rw [fin_rs, he]; rfl
theorem view_grown {st : Store} {e : TypeId} {k : Key} {vs : List V} {n : Nat} (hn : vs.length = n) (h : GrownB (st k) e vs) : V.arg st (grown e k n) = (V.toD.V.toDs vs).map (D.sl e) := by
  have he := elems_grown hn h
  cases n with
  | zero => have hv : vs = [] := List.eq_nil_of_length_eq_zero hn; subst hv; rfl
  | succ n =>
    simp only [grown] at he ⊢
    rw [argv_rs]
    simp only [V.view, he]
theorem consV_d (x : D) (vs : List V) : consV (.d x) vs = some (.d x :: vs) := nr rfl
theorem consV_agg (t : TypeId) (xs : List V) (vs : List V) : consV (.agg t xs) vs = some (.agg t xs :: vs) := nr rfl
theorem consV_p (k : Key) (ver i : Nat) (path : List (TypeId × Nat)) (vs : List V) : consV (.p k ver i path) vs = some (.p k ver i path :: vs) := nr rfl
theorem consV_rs (er : TypeId) (k : Key) (ver off len : Nat) (full : Bool) (vs : List V) : consV (.rs er k ver off len full) vs = some (.rs er k ver off len full :: vs) := nr rfl
theorem consV_nils (e : TypeId) (vs : List V) : consV (.nils e) vs = some (.nils e :: vs) := nr rfl
theorem consV_fn (f : FuncId) (c : List V) (vs : List V) : consV (.fn f c) vs = some (.fn f c :: vs) := nr rfl
theorem consV_und (vs : List V) : consV .und vs = some (.und :: vs) := nr rfl
theorem consV_jk (vs : List V) : consV .jk vs = some (.jk :: vs) := nr rfl
theorem consV_grown (e : TypeId) (k : Key) (n : Nat) (vs : List V) : consV (grown e k n) vs = some (grown e k n :: vs) := by cases n <;> rfl
theorem topR_grown (st : Store) (e : TypeId) (k : Key) (n : Nat) : topR (some (grown e k n, st)) = oneL (V.fin st 9 (grown e k n)) := by cases n <;> rfl
theorem hasT_grown {P : Program} {t e : TypeId} {x : TypeId} {k : Key} {n : Nat} (h : tk P t = .sl x) : hasT P t (grown e k n) = true := by cases n <;> simp [hasT, grown, h]
theorem len_grown (e : TypeId) (k : Key) (n : Nat) : lenV (grown e k n) = some n := by cases n <;> rfl
theorem consV_mp (k : Key) (ver : Nat) (vs : List V) : consV (.mp k ver) vs = some (.mp k ver :: vs) := nr rfl
/-! ### maps -/
theorem sameK_i (k : IntKind) (a b : Int) : sameK (.int k a) (.int k b) = some (decide (a = b)) := by simp [sameK]
theorem sameK_s (a b : ByteArray) : sameK (.str a) (.str b) = some (decide (a = b)) := nr rfl
theorem mget_0 (x : D) : mget [] x = some none := nr rfl
theorem mget_hit (q x : D) (v : V) (r : List V) (h : sameK x q = some true) : mget (.d q :: v :: r) x = some (some v) := by simp [mget, h]
theorem mget_miss (q x : D) (v : V) (r : List V) (h : sameK x q = some false) : mget (.d q :: v :: r) x = mget r x := by simp [mget, h]
theorem mput_0 (x : D) (v : V) : mput [] x v = some [.d x, v] := nr rfl
theorem mput_hit (q x : D) (u v : V) (r : List V) (h : sameK x q = some true) : mput (.d q :: u :: r) x v = some (.d q :: v :: r) := by simp [mput, h]
theorem mput_miss (q x : D) (u v : V) (r : List V) (h : sameK x q = some false) : mput (.d q :: u :: r) x v = consP (.d q) u (mput r x v) := by simp [mput, h]
/-- All keys are whole numbers of a kind. -/
def keysI (k : IntKind) : List V → Prop
  | [] => True
  | [_] => False
  | q :: _ :: r => (∃ n, q = .d (.int k n)) ∧ keysI k r
theorem keysI_get {k : IntKind} {n : Int} : ∀ {m : List V}, keysI k m → ∃ r, mget m (.int k n) = some r
  | [], _ => ⟨none, rfl⟩
  | [_], h => h.elim
  | _ :: v :: r, ⟨⟨q, hq⟩, h2⟩ => by
    subst hq
    by_cases hn : n = q
    · exact ⟨_, mget_hit _ _ _ _ (by simp [sameK_i, hn])⟩
    · obtain ⟨x, hx⟩ := keysI_get (n := n) h2
      exact ⟨x, by rw [mget_miss _ _ _ _ (by simp [sameK_i, hn])]; exact hx⟩
theorem keysI_put {k : IntKind} {n : Int} {v : V} : ∀ {m : List V}, keysI k m → ∃ m', mput m (.int k n) v = some m' ∧ keysI k m' ∧ ∀ j, mget m' (.int k j) = if j = n then some (some v) else mget m (.int k j)
  | [], _ => ⟨[.d (.int k n), v], rfl, ⟨⟨n, rfl⟩, trivial⟩, fun j => by
      by_cases hj : j = n
      · rw [if_pos hj]; exact mget_hit _ _ _ _ (by simp [sameK_i, hj])
      · rw [if_neg hj, mget_miss _ _ _ _ (by simp [sameK_i, hj])]⟩
  | [_], h => h.elim
  | _ :: u :: r, ⟨⟨q, hq⟩, h2⟩ => by
    subst hq
    by_cases hn : n = q
    · subst hn
      refine ⟨_, mput_hit _ _ _ _ _ (by simp [sameK_i]), ⟨⟨_, rfl⟩, h2⟩, fun j => ?_⟩
      by_cases hj : j = n
      · rw [if_pos hj]; exact mget_hit _ _ _ _ (by simp [sameK_i, hj])
      · rw [if_neg hj, mget_miss _ _ _ _ (by simp [sameK_i, hj]), mget_miss _ _ _ _ (by simp [sameK_i, hj])]
    · obtain ⟨m', h3, h4, h5⟩ := keysI_put (n := n) (v := v) h2
      refine ⟨.d (.int k q) :: u :: m', (mput_miss _ _ _ _ _ (by simp [sameK_i, hn])).trans (by rw [h3]; rfl), ⟨⟨_, rfl⟩, h4⟩, fun j => ?_⟩
      by_cases hq2 : j = q
      · subst hq2
        rw [if_neg (fun e => hn e.symm), mget_hit _ _ _ _ (by simp [sameK_i]), mget_hit _ _ _ _ (by simp [sameK_i])]
      · rw [mget_miss _ _ _ _ (by simp [sameK_i, hq2]), mget_miss _ _ _ _ (by simp [sameK_i, hq2]), h5]
theorem elemT_grown (e : TypeId) (k : Key) (n : Nat) (h : 0 < n) : elemT (grown e k n) = some e := by cases n <;> simp_all [grown, elemT]
end Go.Ev
