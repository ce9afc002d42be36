/- Parts of one proof, joined: EvW, E11, E9, E13, E20, E21, E25, E37, E38, E39, E57, E60, E40, G40, E56, G56, E58, E77, G77, G58, E59, E78, E85, G85, E86, NumA, G86, G78, G59, E76. -/
import Derived.Test.YtnopgienncmcmaaMOpticsAxes6
import Derived.Test.YtnopgienncmcmaaProg
import Derived.Laws.Externs
section
set_option linter.unusedVariables false
set_option linter.unusedSimpArgs false
namespace Go.Ev
open Go.RowKit
section
variable {P : Program} {Γ : Specs} {L : Nat}
def evFB (P : Program) (Γ : Specs) (T : Table) (L : Nat) (base : Caller) : Nat → Caller
  | 0 => base
  | c + 1 => fun f xs lv st => match T f with
    | some _ => evB P Γ T L (evFB P Γ T L base c) f xs lv st
    | none => base f xs lv st
theorem evFB_s {T : Table} {base : Caller} {c : Nat} (f : FuncId) (xs : List V) (lv : Nat) (st : Store) (fn : Func) (msk : Masks) (code : Code) (hT : T f = some ⟨fn, msk⟩) (hb : fn.body = some code) :
    evFB P Γ T L base (c + 1) f xs lv st = outR P fn.results.toList (evC P Γ (evFB P Γ T L base c) L msk lv 0 code (pad xs fn.ntmps) st) := by
  show (match T f with | some _ => evB P Γ T L (evFB P Γ T L base c) f xs lv st | none => base f xs lv st) = _
  rw [hT]
  exact evB_s f xs lv st fn msk code hT hb
theorem evFB_b {T : Table} {base : Caller} {c : Nat} (f : FuncId) (xs : List V) (lv : Nat) (st : Store) (hT : T f = none) : evFB P Γ T L base c f xs lv st = base f xs lv st := by
  cases c with
  | zero => rfl
  | succ c => show (match T f with | some _ => evB P Γ T L (evFB P Γ T L base c) f xs lv st | none => base f xs lv st) = _; rw [hT]
theorem evFB_sound {T : Table} {base : Caller} (hm : P.follows .mixedOrders = true) (hΓ : ∀ g s, look Γ g = some s → SpecOk P g s) (hT : TableOk P (Γ.map (·.1)) T) (hbase : CallerOk P base) : ∀ c, CallerOk P (evFB P Γ T L base c)
  | 0 => hbase
  | c + 1 => by
    intro f xs lv st v st' h
    have h' : (match T f with | some _ => evB P Γ T L (evFB P Γ T L base c) f xs lv st | none => base f xs lv st) = some (v, st') := h
    split at h'
    · exact evB_sound hm hΓ hT (evFB_sound hm hΓ hT hbase c) f xs lv st v st' h'
    · exact hbase f xs lv st v st' h'
def evTopB (P : Program) (Γ : Specs) (T : Table) (L : Nat) (base : Caller) (c : Nat) (f : FuncId) (xs : List D) : Option (List D) := topR (evFB P Γ T L base c f (xs.map V.d) 0 empty)
theorem spec_of_evB {T : Table} {base : Caller} {f : FuncId} {s : Spec} (hm : P.follows .mixedOrders = true) (hΓ : ∀ g s, look Γ g = some s → SpecOk P g s) (hT : TableOk P (Γ.map (·.1)) T) (hbase : CallerOk P base)
    (h : ∀ xs rs, s.run xs = some rs → ∃ L c, evTopB P Γ T L base c f xs = some rs) : SpecOk P f s := by
  intro xs rs S w vals hrun hS hargs
  obtain ⟨L, c, ht⟩ := h xs rs hrun
  exact call_of_caller (evFB_sound hm hΓ hT hbase c) ht hS hargs
theorem specP_okB {T : Table} {base : Caller} {f : FuncId} {α β : Type} {c : CodL α} {p : α → Option β} {res : β → List D} (hm : P.follows .mixedOrders = true) (hΓ : ∀ g s, look Γ g = some s → SpecOk P g s) (hT : TableOk P (Γ.map (·.1)) T) (hbase : CallerOk P base)
    (h : ∀ x r, p x = some r → ∃ L n, evTopB P Γ T L base n f (c.e x) = some (res r)) : SpecOk P f (specP c p res) := spec_of_caller fun x hp => by
  cases hx : p x with
  | none => rw [hx] at hp; cases hp
  | some r =>
    obtain ⟨L, n, ht⟩ := h x r hx
    exact ⟨_, evFB_sound hm hΓ hT hbase n, ht⟩
/-- Two callers beside each other. -/
def orC (a b : Caller) : Caller := fun f xs lv st => match a f xs lv st with
  | some r => some r
  | none => b f xs lv st
theorem orC_ok {a b : Caller} (ha : CallerOk P a) (hb : CallerOk P b) : CallerOk P (orC a b) := by
  intro f xs lv st v st' h
  unfold orC at h
  split at h
  · rename_i r hr
    cases h
    exact ha f xs lv st v st' hr
  · exact hb f xs lv st v st' h
def noC : Caller := fun _ _ _ _ => none
theorem noC_ok : CallerOk P noC := by
  intro f xs lv st v st' h
  cases h
/-! ### the keys of a map of numbers, sorted -/
def insI (x : Int) : List Int → List Int
  | [] => [x]
  | y :: r => if x ≤ y then x :: y :: r else y :: insI x r
def isort : List Int → List Int
  | [] => []
  | x :: r => insI x (isort r)
theorem insI_perm (x : Int) : ∀ l, (insI x l).Perm (x :: l)
  | [] => List.Perm.refl _
  | y :: r => by
    unfold insI
    split
    · exact List.Perm.refl _
    · exact ((insI_perm x r).cons y).trans (List.Perm.swap x y r)
theorem isort_perm : ∀ l, (isort l).Perm l
  | [] => List.Perm.refl _
  | x :: r => (insI_perm x (isort r)).trans ((isort_perm r).cons x)
theorem insI_sorted (x : Int) : ∀ l : List Int, l.Pairwise (· ≤ ·) → (insI x l).Pairwise (· ≤ ·)
  | [], _ => by simp [insI]
  | y :: r, h => by
    unfold insI
    rw [List.pairwise_cons] at h
    split
    · rename_i hc
      refine List.pairwise_cons.2 ⟨fun z hz => ?_, List.pairwise_cons.2 h⟩
      rcases List.mem_cons.1 hz with rfl | hz
      · exact hc
      · have := h.1 z hz; omega
    · rename_i hc
      refine List.pairwise_cons.2 ⟨fun z hz => ?_, insI_sorted x r h.2⟩
      rcases List.mem_cons.1 ((insI_perm x r).mem_iff.1 hz) with rfl | hz
      · omega
      · exact h.1 z hz
theorem isort_sorted : ∀ l, (isort l).Pairwise (· ≤ ·)
  | [] => List.Pairwise.nil
  | x :: r => insI_sorted x _ (isort_sorted r)
theorem isort_len (l : List Int) : (isort l).length = l.length := (isort_perm l).length_eq
def inI64 (n : Int) : Bool := decide (-9223372036854775808 ≤ n) && decide (n < 9223372036854775808)
def mkeys : List V → Option (List Int)
  | [] => some []
  | [_] => none
  | k :: _ :: r => match k with
    | .d (.int .i64 n) => match mkeys r with
      | some ns => some (n :: ns)
      | none => none
    | _ => none
def SortedOk (P : Program) (gs gk : FuncId) (e : TypeId) : Prop := (∃ fn, P.funcs[gs]? = some fn ∧ (fn.name == "runtime.NumGoroutine") = false ∧ fn.body.isNone = false) ∧
  (∀ (b r : Nat) (es : Array MapEntry) (clock : Nat) (ns : List Int) (w : World), w.cell? ⟨b, 0, none⟩ = some (.map (some r)) → w.heap[r]? = some (.map es clock) → MapKept.Stamped es clock →
    es.toList.map (·.key) = ns.map (Value.int .i64) → (∀ n ∈ ns, inI64 n = true) → ns.length * 8 ≤ 140737488355328 →
    Calls P gs #[.func (.func gk) #[] #[.pointer (some ⟨b, 0, none⟩)]] w fun ex w' => ∃ v, ex = .returned v ∧ w'.ownsRow w.heap.size e 1 v ns.length ((isort ns).map (Value.int .i64)) ∧ Below w.heap.size w w') ∧
  ∀ (b : Nat) (w : World), w.cell? ⟨b, 0, none⟩ = some (.map none) → Calls P gs #[.func (.func gk) #[] #[.pointer (some ⟨b, 0, none⟩)]] w fun ex w' => ∃ v, ex = .returned v ∧ w'.ownsRow w.heap.size e 1 v 0 [] ∧ Below w.heap.size w w'
def sortedC (P : Program) (gs gk : FuncId) (e : TypeId) : Caller := fun f xs lv st => match xs with
  | [.fn g [.p kb vb i path]] => if f = gs ∧ g = gk ∧ i = 0 ∧ path = [] ∧ (st kb).ver = vb ∧ (st kb).live = true ∧ szOf P (st kb).e = 1 ∧ szOf P e = 1 then match (st kb).vs with
    | [.nilm] => some (.d (.sl e []), st)
    | [.mp km vm] => if (st km).ver = vm ∧ (st km).live = true then match mkeys (st km).vs with
      | some ns => if ns.all inI64 = true ∧ ns.length * 8 ≤ maxRow then some (.d (.sl e ((isort ns).map (D.int .i64))), st) else none
      | none => none
      else none
    | _ => none
    else none
  | _ => none
theorem mkeys_rel {S : Nat → Prop} {σ : Sig} {st : Store} {w : World} : ∀ {vs : List V} {es : List MapEntry} {ns : List Int}, MapRel P S σ st w vs es → mkeys vs = some ns → es.map (·.key) = ns.map (Value.int .i64)
  | [], es, ns, h, hn => by cases h; cases hn; rfl
  | [_], es, ns, h, hn => h.elim
  | k :: v :: vs, es, ns, h, hn => by
    obtain ⟨e, q, rfl, h1, h2, h3⟩ := h
    simp only [mkeys] at hn
    split at hn
    · rename_i n
      split at hn
      · rename_i ms hm
        cases hn
        have hk : e.key = .int .i64 n := relV_int (P := P) (S := S) (σ := σ) (st := st) (w := w) h1
        rw [List.map_cons, List.map_cons, hk, mkeys_rel h3 hm]
      · cases hn
    · cases hn
theorem fls_ints {S : Nat → Prop} {w : World} : ∀ ns : List Int, Fl.fls P S w (ns.map (D.int .i64)) (ns.map fun n => [Value.int .i64 n])
  | [] => rfl
  | n :: ns => ⟨[.int .i64 n], _, rfl, rfl, fls_ints ns⟩
theorem sortedC_ok {gs gk : FuncId} {e : TypeId} (h : SortedOk P gs gk e) : CallerOk P (sortedC P gs gk e) := by
  obtain ⟨⟨fn, f1, f2, f3⟩, hs, hs0⟩ := h
  intro f xs lv st v st' h B0 S σ w vals hI hx
  unfold sortedC at h
  split at h
  · rename_i g kb vb i path
    split at h
    · rename_i hc
      obtain ⟨rfl, rfl, rfl, rfl, hvb, hlb, hszb, hsze⟩ := hc
      obtain ⟨x, r, rfl, hx1, hr⟩ := hx
      obtain rfl : r = [] := hr
      have hx2 : RelC P S σ st w (.fn g [.p kb vb 0 []]) [x] := by
        rcases hx1 with h | ⟨h, _⟩ | ⟨_, h⟩
        · cases h
        · cases h
        · exact h
      obtain ⟨caps, hfn, hcaps⟩ := hx2
      obtain ⟨c1, r1, e1, hp, hr1⟩ := hcaps
      have hr1' : r1 = [] := hr1
      subst hr1'
      obtain ⟨A, rfl, hAv, hA⟩ := hp
      obtain ⟨hpos, b, cap, off, hσb, hoff, hAeq⟩ := hA hvb.symm hlb
      have ho0 : off = 0 := by simpa [pathOff] using hoff.symm
      subst ho0
      have hAe : A = ⟨b, 0, none⟩ := by rw [hAeq]; simp
      subst hAe
      have hcapv : caps = [.pointer (some ⟨b, 0, none⟩)] := by
        cases caps with
        | nil => cases e1
        | cons a q => simp only [List.map_cons, List.cons.injEq, and_true] at e1; cases q with
          | nil => simpa using e1.1
          | cons _ _ => simp at e1
      subst hcapv
      have hxv : x = .func (.func g) #[] #[.pointer (some ⟨b, 0, none⟩)] := by simpa using hfn
      subst hxv
      obtain ⟨_, hsome⟩ := (hI.own kb hlb).row hpos
      obtain ⟨g1, g2, g3, cur, css, g4, g5, g6, g7, g8, g9, g10⟩ := hsome b cap hσb
      have hcellv : ∀ val, css = [[val]] → (st kb).vs.length = 1 → w.cell? ⟨b, 0, none⟩ = some val := by
        intro val hcss hlen
        have ht : cur.toList.take 1 = [val] := by rw [hcss, hlen, hszb] at g8; simpa using g8
        rw [cell_of_row w b 0 cur _ _ g4]
        have h3 := cell_of_take (cur := cur) (N := 1) (j := 0) ht (by simp)
        simpa using h3
      split at h
      · rename_i hvs
        cases h
        rw [hvs] at g10
        obtain ⟨c2, r2, hc2, hmp, hr2⟩ := g10
        have hr2' : r2 = [] := hr2
        subst hr2'
        have hmp' : c2 = [Value.map none] := hmp
        subst hmp'
        have hcell := hcellv _ hc2 (by rw [hvs]; rfl)
        refine .inl ⟨fn, f1, f2, f3, (hs0 b w hcell).mono ?_⟩
        rintro e' w' ⟨v, rfl, hrow, hb⟩
        obtain ⟨j1, j2, j3⟩ := after_spec hI hb
        refine ⟨_, rfl, Plus S w w', σ, j1, j2, j3, RelC.to_v ?_ rfl⟩
        obtain ⟨hl, hrow⟩ := hrow
        rcases hrow with ⟨rfl, hz⟩ | ⟨gb, cap', cur', rfl, _⟩
        · exact ⟨_, _, rfl, .inl rfl⟩
        · exact ⟨_, _, rfl, .inl rfl⟩
      · rename_i km vm hvs
        split at h
        · rename_i hcm
          obtain ⟨hvm, hlm⟩ := hcm
          split at h
          · rename_i ns hns
            split at h
            · rename_i hok
              cases h
              rw [hvs] at g10
              obtain ⟨c2, r2, hc2, hmp, hr2⟩ := g10
              have hr2' : r2 = [] := hr2
              subst hr2'
              obtain ⟨rm, rfl, hmv, hmm⟩ := hmp
              obtain ⟨h0m, capm, hσm⟩ := hmm hvm.symm hlm
              have hcell := hcellv _ hc2 (by rw [hvs]; rfl)
              obtain ⟨es, clock, m1, m2, m3⟩ := map_at_s hI hlm h0m hσm
              have hkeys := mkeys_rel m2 hns
              have hall : ∀ n ∈ ns, inI64 n = true := by simpa using hok.1
              refine .inl ⟨fn, f1, f2, f3, (hs b rm es clock ns w hcell m1 m3 hkeys hall hok.2).mono ?_⟩
              rintro e' w' ⟨v, rfl, hrow, hb⟩
              obtain ⟨j1, j2, j3⟩ := after_spec hI hb
              refine ⟨_, rfl, Plus S w w', σ, j1, j2, j3, RelC.to_v ?_ rfl⟩
              obtain ⟨hl, hrow⟩ := hrow
              rcases hrow with ⟨rfl, hz⟩ | ⟨gb, cap', cur', rfl, hge, hgb, q1, q2, q3, q4⟩
              · have hn : ns = [] := List.eq_nil_of_length_eq_zero hz
                subst hn
                exact ⟨_, _, rfl, .inl rfl⟩
              · have hlen : ((isort ns).map (D.int .i64)).length = ns.length := by simp [isort_len]
                refine ⟨some ⟨gb, 0, none⟩, cap', by rw [hlen], .inr ⟨gb, 0, (isort ns).map fun n => [Value.int .i64 n], rfl, .inr ⟨hge, ?_⟩, by rw [hlen]; exact q1, ?_, ?_, fls_ints _⟩⟩
                · exact (Array.getElem?_eq_some_iff.1 hgb).1
                · intro c hc
                  obtain ⟨n, _, rfl⟩ := List.mem_map.1 hc
                  simp [hsze]
                · refine ⟨cur', e, (0, 0), hgb, fun j hj => ?_⟩
                  rw [Nat.zero_add, flat_iV] at *
                  have hq : cur'.toList.take (ns.length * 1) = (isort ns).map (Value.int .i64) := q4
                  rw [← hq] at hj ⊢
                  rw [List.length_take] at hj
                  rw [List.getElem?_take_of_lt (by omega), Array.getElem?_toList]
            · cases h
          · cases h
        · cases h
      · cases h
    · cases h
  · cases h
end
end Go.Ev
end
section
set_option linter.unusedVariables false
set_option linter.unusedSimpArgs false
set_option maxRecDepth 100000
namespace Go.Proofs.Ytnopgienncmcmaa.E
open Go.Ev
noncomputable def en11 : Entry := ⟨Try.f11, [(1000000, mb 44 0 [0])]⟩
theorem mk11_1000000 (vs : List V) : mask (maskOf en11.ms 1000000) vs = km 44 0 [0] vs := mask_mb _ _ _ _
end Go.Proofs.Ytnopgienncmcmaa.E
end
section
set_option linter.unusedVariables false
set_option linter.unusedSimpArgs false
set_option maxRecDepth 100000
namespace Go.Proofs.Ytnopgienncmcmaa.E
open Go.Ev
noncomputable def en9 : Entry := ⟨Try.f9, [(1, mb 70 0 [1, 6, 7, 8, 9, 10, 11]), (1000001, mb 70 0 [0, 1]), (1000002, mb 70 0 [10]), (1000003, mb 70 0 [1, 6, 7, 8, 9, 10, 11]), (1000000, mb 70 0 [4, 5])]⟩
theorem dw9_7 (lv : Nat) (env : List V) (st : Store) (o : Option (List V × Store)) : drawR en9.ms 7 lv env st o = if lv < 1000000000000000000000000000000 then (o) else none := nr rfl
theorem kl9_7 (lv : Nat) (st : Store) : killR en9.ms 7 lv st = st := nr rfl
theorem nc9_7 : ncOf en9.ms 7 = false := nr rfl
theorem mk9_1 (vs : List V) : mask (maskOf en9.ms 1) vs = km 70 0 [1, 6, 7, 8, 9, 10, 11] vs := mask_mb _ _ _ _
theorem mk9_1000001 (vs : List V) : mask (maskOf en9.ms 1000001) vs = km 70 0 [0, 1] vs := mask_mb _ _ _ _
theorem mk9_1000002 (vs : List V) : mask (maskOf en9.ms 1000002) vs = km 70 0 [10] vs := mask_mb _ _ _ _
theorem mk9_1000003 (vs : List V) : mask (maskOf en9.ms 1000003) vs = km 70 0 [1, 6, 7, 8, 9, 10, 11] vs := mask_mb _ _ _ _
theorem mk9_1000000 (vs : List V) : mask (maskOf en9.ms 1000000) vs = km 70 0 [4, 5] vs := mask_mb _ _ _ _
theorem fz9_1 (lv : Nat) (f : Run) : frzF en9.ms lv 1 f = f := nr rfl
theorem fi9_1 (lv : Nat) (env : List V) (st : Store) (q : Store → Out) : frzI en9.ms lv 1 env st q = q st := nr rfl
noncomputable def lb9_1 : Code := loopN Try.f9 0
end Go.Proofs.Ytnopgienncmcmaa.E
end
section
set_option linter.unusedVariables false
set_option linter.unusedSimpArgs false
set_option maxRecDepth 100000
namespace Go.Proofs.Ytnopgienncmcmaa.E
open Go.Ev
noncomputable def en13 : Entry := ⟨Try.f13, [(1000000, mb 14 0 [2])]⟩
theorem mk13_1000000 (vs : List V) : mask (maskOf en13.ms 1000000) vs = km 14 0 [2] vs := mask_mb _ _ _ _
end Go.Proofs.Ytnopgienncmcmaa.E
end
section
set_option linter.unusedVariables false
set_option linter.unusedSimpArgs false
set_option maxRecDepth 100000
namespace Go.Proofs.Ytnopgienncmcmaa.E
open Go.Ev
noncomputable def en20 : Entry := ⟨Try.f20, [(1000000, mb 18 0 [4])]⟩
theorem mk20_1000000 (vs : List V) : mask (maskOf en20.ms 1000000) vs = km 18 0 [4] vs := mask_mb _ _ _ _
end Go.Proofs.Ytnopgienncmcmaa.E
end
section
set_option linter.unusedVariables false
set_option linter.unusedSimpArgs false
set_option maxRecDepth 100000
namespace Go.Proofs.Ytnopgienncmcmaa.E
open Go.Ev
noncomputable def en21 : Entry := ⟨Try.f21, [(1000001, mb 42 0 [1]), (1000000, mb 42 0 [4])]⟩
theorem mk21_1000001 (vs : List V) : mask (maskOf en21.ms 1000001) vs = km 42 0 [1] vs := mask_mb _ _ _ _
theorem mk21_1000000 (vs : List V) : mask (maskOf en21.ms 1000000) vs = km 42 0 [4] vs := mask_mb _ _ _ _
end Go.Proofs.Ytnopgienncmcmaa.E
end
section
set_option linter.unusedVariables false
set_option linter.unusedSimpArgs false
set_option maxRecDepth 100000
namespace Go.Proofs.Ytnopgienncmcmaa.E
open Go.Ev
noncomputable def en25 : Entry := ⟨Try.f25, [(0, mb 88 0 [2, 3, 4, 5, 6, 7, 11, 12, 13]), (1000001, mb 88 0 [2, 3, 4, 5, 6, 7]), (1000002, mb 88 0 [2, 3, 4, 5, 6, 7, 11, 12, 13]), (1000003, mb 88 0 [2, 3, 4, 5, 6, 7, 9, 11, 12, 13]), (1000000, mb 88 0 [2, 3, 4]), (3000018, mb 88 0 [2, 3, 4]), (4000018, mb 88 0 []), (3000019, mb 88 0 [2, 3]), (4000019, mb 88 0 [])]⟩
theorem dw25_18 (lv : Nat) (env : List V) (st : Store) (o : Option (List V × Store)) : drawR en25.ms 18 lv env st o = if lv < 1000000000000000000000000000000 then (if apartAll (sel (mb 88 0 [2, 3, 4]) env) = true ∧ freeAll (sel (mb 88 0 []) env) = true then o else none) else none := nr rfl
theorem kl25_18 (lv : Nat) (st : Store) : killR en25.ms 18 lv st = st := nr rfl
theorem nc25_18 : ncOf en25.ms 18 = false := nr rfl
theorem dw25_19 (lv : Nat) (env : List V) (st : Store) (o : Option (List V × Store)) : drawR en25.ms 19 lv env st o = if lv < 1000000000000000000000000000000 then (if apartAll (sel (mb 88 0 [2, 3]) env) = true ∧ freeAll (sel (mb 88 0 []) env) = true then o else none) else none := nr rfl
theorem kl25_19 (lv : Nat) (st : Store) : killR en25.ms 19 lv st = st := nr rfl
theorem nc25_19 : ncOf en25.ms 19 = false := nr rfl
theorem mk25_0 (vs : List V) : mask (maskOf en25.ms 0) vs = km 88 0 [2, 3, 4, 5, 6, 7, 11, 12, 13] vs := mask_mb _ _ _ _
theorem mk25_1000001 (vs : List V) : mask (maskOf en25.ms 1000001) vs = km 88 0 [2, 3, 4, 5, 6, 7] vs := mask_mb _ _ _ _
theorem mk25_1000002 (vs : List V) : mask (maskOf en25.ms 1000002) vs = km 88 0 [2, 3, 4, 5, 6, 7, 11, 12, 13] vs := mask_mb _ _ _ _
theorem mk25_1000003 (vs : List V) : mask (maskOf en25.ms 1000003) vs = km 88 0 [2, 3, 4, 5, 6, 7, 9, 11, 12, 13] vs := mask_mb _ _ _ _
theorem mk25_1000000 (vs : List V) : mask (maskOf en25.ms 1000000) vs = km 88 0 [2, 3, 4] vs := mask_mb _ _ _ _
theorem fz25_0 (lv : Nat) (f : Run) : frzF en25.ms lv 0 f = f := nr rfl
theorem fi25_0 (lv : Nat) (env : List V) (st : Store) (q : Store → Out) : frzI en25.ms lv 0 env st q = q st := nr rfl
noncomputable def lb25_0 : Code := loopN Try.f25 0
end Go.Proofs.Ytnopgienncmcmaa.E
end
section
set_option linter.unusedVariables false
set_option linter.unusedSimpArgs false
set_option maxRecDepth 100000
namespace Go.Proofs.Ytnopgienncmcmaa.E
open Go.Ev
noncomputable def en37 : Entry := ⟨Try.f37, [(1000000, mb 26 0 [4])]⟩
theorem mk37_1000000 (vs : List V) : mask (maskOf en37.ms 1000000) vs = km 26 0 [4] vs := mask_mb _ _ _ _
end Go.Proofs.Ytnopgienncmcmaa.E
end
section
set_option linter.unusedVariables false
set_option linter.unusedSimpArgs false
set_option maxRecDepth 100000
namespace Go.Proofs.Ytnopgienncmcmaa.E
open Go.Ev
noncomputable def en38 : Entry := ⟨Try.f38, [(0, mb 56 0 [0, 1, 4, 6, 7]), (1000001, mb 56 0 [0, 1, 4, 6]), (1000002, mb 56 0 [0, 1, 4, 6, 7]), (1000003, mb 56 0 [4, 8, 9]), (1000000, mb 56 0 [4, 5])]⟩
theorem dw38_5 (lv : Nat) (env : List V) (st : Store) (o : Option (List V × Store)) : drawR en38.ms 5 lv env st o = if lv < 1000000000000000000000000000000 then (o) else none := nr rfl
theorem kl38_5 (lv : Nat) (st : Store) : killR en38.ms 5 lv st = st := nr rfl
theorem nc38_5 : ncOf en38.ms 5 = false := nr rfl
theorem dw38_6 (lv : Nat) (env : List V) (st : Store) (o : Option (List V × Store)) : drawR en38.ms 6 lv env st o = if lv < 1000000000000000000000000000000 then (o) else none := nr rfl
theorem kl38_6 (lv : Nat) (st : Store) : killR en38.ms 6 lv st = st := nr rfl
theorem nc38_6 : ncOf en38.ms 6 = false := nr rfl
theorem mk38_0 (vs : List V) : mask (maskOf en38.ms 0) vs = km 56 0 [0, 1, 4, 6, 7] vs := mask_mb _ _ _ _
theorem mk38_1000001 (vs : List V) : mask (maskOf en38.ms 1000001) vs = km 56 0 [0, 1, 4, 6] vs := mask_mb _ _ _ _
theorem mk38_1000002 (vs : List V) : mask (maskOf en38.ms 1000002) vs = km 56 0 [0, 1, 4, 6, 7] vs := mask_mb _ _ _ _
theorem mk38_1000003 (vs : List V) : mask (maskOf en38.ms 1000003) vs = km 56 0 [4, 8, 9] vs := mask_mb _ _ _ _
theorem mk38_1000000 (vs : List V) : mask (maskOf en38.ms 1000000) vs = km 56 0 [4, 5] vs := mask_mb _ _ _ _
theorem fz38_0 (lv : Nat) (f : Run) : frzF en38.ms lv 0 f = f := nr rfl
theorem fi38_0 (lv : Nat) (env : List V) (st : Store) (q : Store → Out) : frzI en38.ms lv 0 env st q = q st := nr rfl
noncomputable def lb38_0 : Code := loopN Try.f38 0
end Go.Proofs.Ytnopgienncmcmaa.E
end
section
set_option linter.unusedVariables false
set_option linter.unusedSimpArgs false
set_option maxRecDepth 100000
namespace Go.Proofs.Ytnopgienncmcmaa.E
open Go.Ev
noncomputable def en39 : Entry := ⟨Try.f39, [(1000000, mb 62 0 [4, 5])]⟩
theorem dw39_4 (lv : Nat) (env : List V) (st : Store) (o : Option (List V × Store)) : drawR en39.ms 4 lv env st o = if lv < 1000000000000000000000000000000 then (o) else none := nr rfl
theorem kl39_4 (lv : Nat) (st : Store) : killR en39.ms 4 lv st = st := nr rfl
theorem nc39_4 : ncOf en39.ms 4 = false := nr rfl
theorem dw39_5 (lv : Nat) (env : List V) (st : Store) (o : Option (List V × Store)) : drawR en39.ms 5 lv env st o = if lv < 1000000000000000000000000000000 then (o) else none := nr rfl
theorem kl39_5 (lv : Nat) (st : Store) : killR en39.ms 5 lv st = st := nr rfl
theorem nc39_5 : ncOf en39.ms 5 = false := nr rfl
theorem dw39_6 (lv : Nat) (env : List V) (st : Store) (o : Option (List V × Store)) : drawR en39.ms 6 lv env st o = if lv < 1000000000000000000000000000000 then (o) else none := nr rfl
theorem kl39_6 (lv : Nat) (st : Store) : killR en39.ms 6 lv st = st := nr rfl
theorem nc39_6 : ncOf en39.ms 6 = false := nr rfl
theorem mk39_1000000 (vs : List V) : mask (maskOf en39.ms 1000000) vs = km 62 0 [4, 5] vs := mask_mb _ _ _ _
end Go.Proofs.Ytnopgienncmcmaa.E
end
section
set_option linter.unusedVariables false
set_option linter.unusedSimpArgs false
set_option maxRecDepth 100000
namespace Go.Proofs.Ytnopgienncmcmaa.E
open Go.Ev
noncomputable def en57 : Entry := ⟨Try.f57, [(1000000, mb 11 0 [4])]⟩
theorem dw57_1 (lv : Nat) (env : List V) (st : Store) (o : Option (List V × Store)) : drawR en57.ms 1 lv env st o = if lv < 1000000000000000000000000000000 then (o) else none := nr rfl
theorem kl57_1 (lv : Nat) (st : Store) : killR en57.ms 1 lv st = st := nr rfl
theorem nc57_1 : ncOf en57.ms 1 = false := nr rfl
theorem mk57_1000000 (vs : List V) : mask (maskOf en57.ms 1000000) vs = km 11 0 [4] vs := mask_mb _ _ _ _
end Go.Proofs.Ytnopgienncmcmaa.E
end
section
set_option linter.unusedVariables false
set_option linter.unusedSimpArgs false
set_option maxRecDepth 100000
namespace Go.Proofs.Ytnopgienncmcmaa.E
open Go.Ev
noncomputable def en60 : Entry := ⟨Try.f60, [(0, mb 34 0 [0, 1, 6, 10, 11, 12]), (1000001, mb 34 0 [0, 1, 6]), (1000002, mb 34 0 [0, 1, 6, 10, 11, 12]), (1000000, mb 34 0 [6, 7])]⟩
theorem mk60_0 (vs : List V) : mask (maskOf en60.ms 0) vs = km 34 0 [0, 1, 6, 10, 11, 12] vs := mask_mb _ _ _ _
theorem mk60_1000001 (vs : List V) : mask (maskOf en60.ms 1000001) vs = km 34 0 [0, 1, 6] vs := mask_mb _ _ _ _
theorem mk60_1000002 (vs : List V) : mask (maskOf en60.ms 1000002) vs = km 34 0 [0, 1, 6, 10, 11, 12] vs := mask_mb _ _ _ _
theorem mk60_1000000 (vs : List V) : mask (maskOf en60.ms 1000000) vs = km 34 0 [6, 7] vs := mask_mb _ _ _ _
theorem fz60_0 (lv : Nat) (f : Run) : frzF en60.ms lv 0 f = f := nr rfl
theorem fi60_0 (lv : Nat) (env : List V) (st : Store) (q : Store → Out) : frzI en60.ms lv 0 env st q = q st := nr rfl
noncomputable def lb60_0 : Code := loopN Try.f60 0
end Go.Proofs.Ytnopgienncmcmaa.E
end
section
set_option linter.unusedVariables false
set_option linter.unusedSimpArgs false
set_option maxRecDepth 100000
namespace Go.Proofs.Ytnopgienncmcmaa.E
open Go.Ev
noncomputable def en40 : Entry := ⟨Try.f40, [(0, mb 18 0 [3, 6, 7, 8]), (1000001, mb 18 0 [3]), (1000002, mb 18 0 [3, 6, 7, 8]), (1000000, mb 18 0 [2])]⟩
theorem mk40_0 (vs : List V) : mask (maskOf en40.ms 0) vs = km 18 0 [3, 6, 7, 8] vs := mask_mb _ _ _ _
theorem mk40_1000001 (vs : List V) : mask (maskOf en40.ms 1000001) vs = km 18 0 [3] vs := mask_mb _ _ _ _
theorem mk40_1000002 (vs : List V) : mask (maskOf en40.ms 1000002) vs = km 18 0 [3, 6, 7, 8] vs := mask_mb _ _ _ _
theorem mk40_1000000 (vs : List V) : mask (maskOf en40.ms 1000000) vs = km 18 0 [2] vs := mask_mb _ _ _ _
theorem fz40_0 (lv : Nat) (f : Run) : frzF en40.ms lv 0 f = f := nr rfl
theorem fi40_0 (lv : Nat) (env : List V) (st : Store) (q : Store → Out) : frzI en40.ms lv 0 env st q = q st := nr rfl
noncomputable def lb40_0 : Code := loopN Try.f40 0
end Go.Proofs.Ytnopgienncmcmaa.E
end
section
set_option linter.unusedVariables false
set_option linter.unusedSimpArgs false
set_option maxRecDepth 100000
namespace Go.Proofs.Ytnopgienncmcmaa.P
open Go.Ev Go.IntKind Go.Proofs.Ytnopgienncmcmaa Go.Proofs.Ytnopgienncmcmaa.Ty Go.Proofs.Ytnopgienncmcmaa.E
def p_cmp_Or_Errno_l0 (L : Nat)  : List Int → Option (Sum Unit Int)
  | [] => some (.inl ())
  | x1 :: tl => cb (decide (x1 = 0)) (p_cmp_Or_Errno_l0 L  tl) (some (.inr x1))
def p_cmp_Or_Errno (L : Nat) (a0 : List Int) : Option Int := rq (a0.length < L) <| bnd (p_cmp_Or_Errno_l0 L a0) fun o3 => match o3 with | (.inl o3_0) => (some 0) | (.inr o3_1) => (some o3_1)
attribute [local go_sem] Ev.putR_s Ev.putR_0 Ev.thenO_s Ev.thenO_0 Ev.seqR_n Ev.seqR_e Ev.seqR_r Ev.seqR_0 Ev.blkR_e Ev.blkR_n Ev.blkR_r Ev.blkR_0 Ev.normR_s Ev.normR_0 Ev.outR_r Ev.outR_n Ev.outR_0 Ev.retS_s Ev.retS_0 Ev.pureO_s Ev.pureO_0 Ev.topR_0 Ev.topR_t Ev.topR_t0 Ev.oneL_0 Ev.oneL_s Ev.topR_d Ev.topR_nils Ev.topR_agg Ev.topR_rs Ev.evOp_move Ev.evOp_assign Ev.evOp_pick Ev.evOp_alloc Ev.evOp_box Ev.evOp_build Ev.evOp_buildSlice Ev.evOp_load Ev.evOp_store Ev.evOp_makeMap Ev.evOp_lookup Ev.evOp_mapUpdate Ev.evOp_insert Ev.evOp_nilCheck Ev.evOp_binOp Ev.evOp_unOp Ev.evOp_convert Ev.evOp_makeFunc Ev.evOp_makeSlice Ev.evOp_slice Ev.evOp_fieldAddr Ev.evOp_field Ev.evOp_indexAddr Ev.evOp_index Ev.evOp_extract Ev.evOp_call Ev.evOp_append Ev.evOp_clear Ev.evOp_len Ev.evLen_d Ev.evLen_rs Ev.evLen_nils Ev.evLen_nila Ev.evLen_mp Ev.evOp_min Ev.evOp_max Ev.condR_b Ev.condR_t Ev.evOps_nil Ev.evOps_plain Ev.evOps_guard Ev.runG_eq Ev.skipG_eq Ev.condL_tt Ev.condL_ff Ev.condL_tf Ev.condL_ft Ev.condL_u Ev.condC_t Ev.condC_f Ev.evC_skip Ev.evC_ret Ev.evC_exit Ev.evC_label Ev.evC_region Ev.evC_draw Ev.evC_seq Ev.evC_cond Ev.evC_block Ev.evC_loop Ev.fin_d Ev.fin_nila Ev.fin_nils Ev.fin_agg_ Ev.fin_rs Ev.finS_s Ev.mapO_fin Ev.upd_upd Ev.argv_d Ev.argv_nila Ev.argv_nils Ev.argv_agg Ev.argv_rs Ev.argv_p Ev.fk_low Ev.appendTo_nils Ev.appendTo_nila Ev.appendTo_rs Ev.consV_d Ev.consV_agg Ev.consV_p Ev.consV_rs Ev.consV_nila Ev.consV_nils Ev.consV_fn Ev.consV_und Ev.consV_jk Ev.consV_grown Ev.topR_grown Ev.len_grown Ev.consV_nilm Ev.consV_mp Ev.sameK_i Ev.sameK_s Ev.mget_0 Ev.mget_hit Ev.mget_miss Ev.mput_0 Ev.mput_hit Ev.mput_miss Ev.apartAll Ev.apartL Ev.apartV Ev.freeAll Ev.sel Ev.keyOfV Ev.evLookup Ev.evPut Ev.hintOk Ev.keyOk Ev.consP Ev.lookV Ev.guardV Ev.dstAt Ev.evPure Ev.evStore Ev.evBin Ev.evBinO Ev.evNil Ev.isNilC Ev.evUn Ev.evConv Ev.evSlice Ev.optI Ev.foldI Ev.capsOk Ev.noTup Ev.nth Ev.setN Ev.killAt Ev.pad Ev.V.get Ev.V.put Ev.putD Ev.newBlk Ev.upd Ev.keq Ev.empty Ev.evCall Ev.V.args Ev.argP Ev.callOf Ev.evNilP Ev.isNilP Ev.look Ev.V.view.views Ev.V.view Ev.V.toD Ev.V.toD.V.toDs Ev.V.pure.pures Ev.V.pure Ev.D.flat.flats Ev.D.flat Ev.mkAgg Ev.allD Ev.aggParts Ev.setParts Ev.setElems Ev.getPath Ev.setPath Ev.subL Ev.eqD Ev.eqD.eqDs Ev.and2 Ev.strCut Ev.evalT Ev.constT Ev.evArgs Ev.mask Ev.maskOf Ev.tableOf Ev.compT Ev.resV Ev.retV Ev.mapO Ev.mx_u64 Ev.mx_u32 Ev.mx_u16 Ev.mx_u8 Ev.sg_i64 Ev.sg_i32 Ev.sg_i16 Ev.sg_i8 Ev.sg_u64 Ev.sg_u32 Ev.sg_u16 Ev.sg_u8 Ev.mapE_i Ev.mapV_nil Ev.hT_nilm Ev.mget_map Ev.mput_map Ev.mapV_put Ev.mapV_half Ev.hT_nila Ev.eO_nila Ev.pL_nila Ev.evLen_gl Ev.r_nila Ev.frzO_n Ev.frzO_e Ev.frzO_r Ev.frzO_0 Ev.mb_z Ev.mb_0 Ev.mb_s Ev.frzL_t Ev.frzL_f Ev.frzL_0 Ev.frzT_nils Ev.frzT_rs Ev.frzT_p Ev.frzK_i Ev.keyIn_i Ev.rI_nil Ev.rI_cons Ev.rI_row Ev.rI_app Ev.r_d Ev.r_nils Ev.r_agg Ev.r_rs Ev.r_gl Ev.vw_row Ev.vw_app Ev.appO_s Ev.frzT_gl Ev.allD_gl Ev.killAt_i Ev.tkOne_i Ev.hT_agg Ev.hT_vagg Ev.hT_int Ev.hT_bool Ev.hT_str Ev.hT_sl Ev.hT_ptr Ev.hT_np Ev.hT_p Ev.hT_rs Ev.hT_mp Ev.hT_nils Ev.hT_fn Ev.hT_jk Ev.hT_gl Ev.eO_sl Ev.eO_nils Ev.eO_rs Ev.eT_sl Ev.eT_rs Ev.pL_str Ev.pL_sl Ev.pL_rs Ev.pL_nils Ev.pL_min Ev.pL_max Ev.len_glB Ev.noTup_gl Ev.rowV_len Ev.rowV_nil Ev.rowV_cons Ev.rowV_append Ev.rowV_set Ev.rowV_replicate Ev.nth_row Ev.row_take Ev.row_drop Ev.toDs_row Ev.fin_row Ev.map_row Ev.map_take_ Ev.map_drop_ Ev.Bk_i Ev.GlB_0 Ev.GlB_mk Ev.gl_nil Ev.gl_cons Ev.gl_snoc Ev.gl_setN Ev.appendTo_gl Ev.consV_gl Ev.elems_gl Ev.fin_gl Ev.view_gl Ev.argv_gl Ev.topR_gl Ev.sp_z Ev.sp_0 Ev.sp_s Ev.km_z Ev.km_0 Ev.km_s Ev.beq_toList Ev.nc0 Ev.bq_t Ev.bq_f Ev.bodyN Ev.le_maxRow Int.cast_ofNat_Int IntWalk.i64_in IntWalk.u64_in IntWalk.u8_in beq_self_eq_true Bool.true_beq Bool.false_beq Bool.and_true Bool.true_and Bool.false_and Bool.and_false Bool.and_self Bool.not_true Bool.not_false Bool.not_eq_true cond_true cond_false if_true if_false and_true true_and and_self decide_true decide_false Bool.or_true Bool.true_or Bool.or_false Bool.false_or List.isEmpty List.isEmpty_nil List.size_toArray List.map List.length_map List.length_cons List.length_nil Option.map Option.bind Option.getD Option.isSome List.replicate Bool.false_eq_true implies_true false_implies forall_const Array.toList Array.isEmpty List.append List.nil_append List.cons_append List.drop_zero List.take_length List.take_succ_cons List.take_zero List.take_nil List.getElem?_map List.getElem?_cons_zero List.getElem?_cons_succ List.getElem?_nil List.append_nil eq_self Int.toNat_natCast List.length_append Nat.zero_add Nat.add_zero List.length_replicate Nat.sub_zero Option.map_some Option.map_none Int.le_refl Nat.le_refl Int.natCast_nonneg List.map_append
attribute [local go_sem_proc] Nat.reduceAdd Nat.reduceSub Nat.reduceMul Nat.reduceEqDiff Nat.reduceBEq Nat.reduceLT Nat.reduceLeDiff Nat.reducePow Int.reduceToNat Int.reduceLT Int.reduceLE Int.reduceGT Int.reduceGE Int.reduceEq Int.reduceNeg Int.reduceAdd Int.reduceSub Int.reduceMul reduceCtorEq
attribute [local go_sem_proc ↓] reduceIte
noncomputable def G_cmp_Or_Errno (L : Nat) : Specs := []
noncomputable def T_cmp_Or_Errno : Table := tableOf [(40, en40)]
theorem Go_cmp_Or_Errno (L : Nat) (hL : L ≤ 4611686018427387904) : ∀ g s, Ev.look (G_cmp_Or_Errno L) g = some s → SpecOk Try.prog g s := specs_nil
theorem To_cmp_Or_Errno (L : Nat) : TableOk Try.prog ((G_cmp_Or_Errno L).map (·.1)) T_cmp_Or_Errno := (table_cons Try.func40 (by kernel_rfl) (by kernel_rfl) table_nil)
attribute [local go_sem] Ty.tk3 Ty.ik3 Ty.ek3 Ty.zv3 Ty.by3 Ty.so3 Ty.tk4 Ty.ub4 Ty.ek4 Ty.zv4 Ty.by4 Ty.so4 Ty.tk24 Ty.ik24 Ty.ek24 Ty.zv24 Ty.by24 Ty.so24 Ty.tk104 Ty.zv104 Ty.by104 Ty.so104 Ty.k104_e E.mk40_0 E.mk40_1000001 E.mk40_1000002 E.mk40_1000000 E.fz40_0 E.fi40_0 E.lb40_0 loopN loops Try.f40
def Q0_p_cmp_Or_Errno_l0 (a0 : List Int) (u : Unit) (z : Out) : Prop := ∃ env st, z = some (.exit 0, env, st) ∧ env = sp 18 0 [(3, .d (.int .i64 0))]
def Q1_p_cmp_Or_Errno_l0 (a0 : List Int) (u : Int) (z : Out) : Prop := ∃ env st, z = some (.ret, env, st) ∧ env = sp 18 0 [(2, .d (.int .i64 u))]
def Q_p_cmp_Or_Errno_l0 (a0 : List Int) (o : Sum Unit Int) (z : Out) : Prop := match o with | (.inl u) => Q0_p_cmp_Or_Errno_l0 a0 u z | (.inr u) => Q1_p_cmp_Or_Errno_l0 a0 u z
theorem l_p_cmp_Or_Errno_l0 (L : Nat) (hL : L ≤ 4611686018427387904) (a0 : List Int) : ∀ (tl : List Int) (n : Nat) (s2 : Int) (env : List V) (st : Store) (o : Sum Unit Int), tl.length < n → Rng a0 s2 tl → mask (maskOf en40.ms 0) env = sp 18 0 [(3, .d (.int .i64 0)), (6, .d (.sl 24 (a0.map (D.int .i64)))), (7, .d (.int .i64 (a0.length : Int))), (8, .d (.int .i64 s2))] → p_cmp_Or_Errno_l0 L  tl  = some o →
    Q_p_cmp_Or_Errno_l0 a0 o (iter (evC Try.prog (G_cmp_Or_Errno L) (evF Try.prog (G_cmp_Or_Errno L) T_cmp_Or_Errno L 0) L en40.ms 0 0 lb40_0) (maskOf en40.ms 0) n env st) := by
  intro tl
  induction tl with
  | nil =>
    intro n s2  env st o hn hR he  h
    obtain ⟨n, rfl⟩ : ∃ m, n = m + 1 := ⟨n - 1, by omega⟩
    have g0 := rng_nil hR
    rw [iter, he]
    clear he
    generalize hK : iter _ _ n = K
    rw [p_cmp_Or_Errno_l0] at h
    revert h
    rintro ⟨⟩
    simp only [go_sem, *]
    refine (⟨_, _, rfl, ?_⟩ : Q0_p_cmp_Or_Errno_l0 _ _ _)
    all_goals simp only [go_sem, *]
  | cons x1 tl ih =>
    intro n s2  env st o hn hR he  h
    obtain ⟨n, rfl⟩ : ∃ m, n = m + 1 := ⟨n - 1, by omega⟩
    replace ih : Hold _ := ih
    replace hR := rng_s hR
    obtain ⟨g0, g1, g2, g3, hR⟩ := hR
    rw [iter, he]
    clear he
    generalize hK : iter _ _ n = K
    rw [p_cmp_Or_Errno_l0] at h
    revert h
    refine cb_i (fun c1 => ?_) (fun c1 => ?_)
    · intro h
      simp only [go_sem, *]
      subst hK
      refine ih n (s2 + 1)  _ _ _ (by simp only [List.length_cons] at hn; omega) hR ?_ h
      all_goals simp only [go_sem, *]
    · rintro ⟨⟩
      simp only [go_sem, *]
      refine (⟨_, _, rfl, ?_⟩ : Q1_p_cmp_Or_Errno_l0 _ _ _)
      all_goals simp only [go_sem, *]
theorem e_cmp_Or_Errno (L : Nat) (hL : L ≤ 4611686018427387904) (a0 : List Int) (res : Int) (h : p_cmp_Or_Errno L a0 = some res) : evTop Try.prog (G_cmp_Or_Errno L) T_cmp_Or_Errno L 1 40 [.sl 24 (a0.map (D.int .i64))] = some [.int .i64 res] := by
  revert h
  unfold p_cmp_Or_Errno evTop
  simp only [List.map]
  rw [evF_s (fn := Try.f40) (msk := en40.ms) (hT := by rfl) (hb := by rfl)]
  refine rq_i fun c1 => ?_
  refine bnd_i fun o3 ho2 => ?_
  intro h
  simp only [go_sem, *]
  generalize hz4 : iter _ _ _ _ _ = z3
  have hq5 : Q_p_cmp_Or_Errno_l0 a0 o3 z3 := by
    rw [← hz4]
    refine l_p_cmp_Or_Errno_l0 L hL a0 a0 L 0  _ _ _ c1 (rng_0 c1 hL) ?_ ho2
    all_goals simp only [go_sem, *]
  clear hz4 ho2
  rcases o3 with o3_0 | o3_1
  · obtain ⟨_, st4, rfl, rfl⟩ := hq5
    dsimp only at h
    revert h
    rintro ⟨⟩
    simp only [go_sem, *]
  · obtain ⟨_, st5, rfl, rfl⟩ := hq5
    dsimp only at h
    revert h
    rintro ⟨⟩
    simp only [go_sem, *]
noncomputable def s_cmp_Or_Errno (L : Nat) : Ev.Spec := specP (cCons k104 cNil) (fun x => p_cmp_Or_Errno L x.1) (fun r => [.int .i64 r])
theorem s_cmp_Or_Errno_run (L : Nat) (a0 : List Int) : (s_cmp_Or_Errno L).run [.sl 24 (a0.map (D.int .i64))] = (p_cmp_Or_Errno L a0).map fun r => [.int .i64 r] := specP_run (cCons k104 cNil) (fun x => p_cmp_Or_Errno L x.1) (fun r => [.int .i64 r]) (a0, ())
theorem ok_cmp_Or_Errno (L : Nat) (hL : L ≤ 4611686018427387904) : SpecOk Try.prog 40 (s_cmp_Or_Errno L) := specP_ok mixed (Go_cmp_Or_Errno L hL) (To_cmp_Or_Errno L) fun x r h => ⟨L, 1, e_cmp_Or_Errno L hL x.1 r h⟩
def sk_cmp_Or_Errno : Ev.Spec := specK (c := (cCons k104 cNil)) (dCons (dL 24 (dI .i64)) dNil) (fun x => p_cmp_Or_Errno 1000 x.1) (fun r => [.int .i64 r])
theorem okk_cmp_Or_Errno : SpecOk Try.prog 40 sk_cmp_Or_Errno := specK_ok (dCons (dL 24 (dI .i64)) dNil) mixed (Go_cmp_Or_Errno 1000 (by decide)) (To_cmp_Or_Errno 1000) fun x r h => ⟨1000, 1, e_cmp_Or_Errno 1000 (by decide) x.1 r h⟩
end Go.Proofs.Ytnopgienncmcmaa.P
end
section
set_option linter.unusedVariables false
set_option linter.unusedSimpArgs false
set_option maxRecDepth 100000
namespace Go.Proofs.Ytnopgienncmcmaa.E
open Go.Ev
noncomputable def en56 : Entry := ⟨Try.f56, [(1000000, mb 10 0 [2])]⟩
theorem mk56_1000000 (vs : List V) : mask (maskOf en56.ms 1000000) vs = km 10 0 [2] vs := mask_mb _ _ _ _
end Go.Proofs.Ytnopgienncmcmaa.E
end
section
set_option linter.unusedVariables false
set_option linter.unusedSimpArgs false
set_option maxRecDepth 100000
namespace Go.Proofs.Ytnopgienncmcmaa.P
open Go.Ev Go.IntKind Go.Proofs.Ytnopgienncmcmaa Go.Proofs.Ytnopgienncmcmaa.Ty Go.Proofs.Ytnopgienncmcmaa.E
def p_frac_size (L : Nat) (a0 : Int) : Option Int := if a0 < 0 then (some (u64.wrap (0 - (u64.wrap a0)))) else (some (u64.wrap a0))
attribute [local go_sem] Ev.putR_s Ev.putR_0 Ev.thenO_s Ev.thenO_0 Ev.seqR_n Ev.seqR_e Ev.seqR_r Ev.seqR_0 Ev.blkR_e Ev.blkR_n Ev.blkR_r Ev.blkR_0 Ev.normR_s Ev.normR_0 Ev.outR_r Ev.outR_n Ev.outR_0 Ev.retS_s Ev.retS_0 Ev.pureO_s Ev.pureO_0 Ev.topR_0 Ev.topR_t Ev.topR_t0 Ev.oneL_0 Ev.oneL_s Ev.topR_d Ev.topR_nils Ev.topR_agg Ev.topR_rs Ev.evOp_move Ev.evOp_assign Ev.evOp_pick Ev.evOp_alloc Ev.evOp_box Ev.evOp_build Ev.evOp_buildSlice Ev.evOp_load Ev.evOp_store Ev.evOp_makeMap Ev.evOp_lookup Ev.evOp_mapUpdate Ev.evOp_insert Ev.evOp_nilCheck Ev.evOp_binOp Ev.evOp_unOp Ev.evOp_convert Ev.evOp_makeFunc Ev.evOp_makeSlice Ev.evOp_slice Ev.evOp_fieldAddr Ev.evOp_field Ev.evOp_indexAddr Ev.evOp_index Ev.evOp_extract Ev.evOp_call Ev.evOp_append Ev.evOp_clear Ev.evOp_len Ev.evLen_d Ev.evLen_rs Ev.evLen_nils Ev.evLen_nila Ev.evLen_mp Ev.evOp_min Ev.evOp_max Ev.condR_b Ev.condR_t Ev.evOps_nil Ev.evOps_plain Ev.evOps_guard Ev.runG_eq Ev.skipG_eq Ev.condL_tt Ev.condL_ff Ev.condL_tf Ev.condL_ft Ev.condL_u Ev.condC_t Ev.condC_f Ev.evC_skip Ev.evC_ret Ev.evC_exit Ev.evC_label Ev.evC_region Ev.evC_draw Ev.evC_seq Ev.evC_cond Ev.evC_block Ev.evC_loop Ev.fin_d Ev.fin_nila Ev.fin_nils Ev.fin_agg_ Ev.fin_rs Ev.finS_s Ev.mapO_fin Ev.upd_upd Ev.argv_d Ev.argv_nila Ev.argv_nils Ev.argv_agg Ev.argv_rs Ev.argv_p Ev.fk_low Ev.appendTo_nils Ev.appendTo_nila Ev.appendTo_rs Ev.consV_d Ev.consV_agg Ev.consV_p Ev.consV_rs Ev.consV_nila Ev.consV_nils Ev.consV_fn Ev.consV_und Ev.consV_jk Ev.consV_grown Ev.topR_grown Ev.len_grown Ev.consV_nilm Ev.consV_mp Ev.sameK_i Ev.sameK_s Ev.mget_0 Ev.mget_hit Ev.mget_miss Ev.mput_0 Ev.mput_hit Ev.mput_miss Ev.apartAll Ev.apartL Ev.apartV Ev.freeAll Ev.sel Ev.keyOfV Ev.evLookup Ev.evPut Ev.hintOk Ev.keyOk Ev.consP Ev.lookV Ev.guardV Ev.dstAt Ev.evPure Ev.evStore Ev.evBin Ev.evBinO Ev.evNil Ev.isNilC Ev.evUn Ev.evConv Ev.evSlice Ev.optI Ev.foldI Ev.capsOk Ev.noTup Ev.nth Ev.setN Ev.killAt Ev.pad Ev.V.get Ev.V.put Ev.putD Ev.newBlk Ev.upd Ev.keq Ev.empty Ev.evCall Ev.V.args Ev.argP Ev.callOf Ev.evNilP Ev.isNilP Ev.look Ev.V.view.views Ev.V.view Ev.V.toD Ev.V.toD.V.toDs Ev.V.pure.pures Ev.V.pure Ev.D.flat.flats Ev.D.flat Ev.mkAgg Ev.allD Ev.aggParts Ev.setParts Ev.setElems Ev.getPath Ev.setPath Ev.subL Ev.eqD Ev.eqD.eqDs Ev.and2 Ev.strCut Ev.evalT Ev.constT Ev.evArgs Ev.mask Ev.maskOf Ev.tableOf Ev.compT Ev.resV Ev.retV Ev.mapO Ev.mx_u64 Ev.mx_u32 Ev.mx_u16 Ev.mx_u8 Ev.sg_i64 Ev.sg_i32 Ev.sg_i16 Ev.sg_i8 Ev.sg_u64 Ev.sg_u32 Ev.sg_u16 Ev.sg_u8 Ev.mapE_i Ev.mapV_nil Ev.hT_nilm Ev.mget_map Ev.mput_map Ev.mapV_put Ev.mapV_half Ev.hT_nila Ev.eO_nila Ev.pL_nila Ev.evLen_gl Ev.r_nila Ev.frzO_n Ev.frzO_e Ev.frzO_r Ev.frzO_0 Ev.mb_z Ev.mb_0 Ev.mb_s Ev.frzL_t Ev.frzL_f Ev.frzL_0 Ev.frzT_nils Ev.frzT_rs Ev.frzT_p Ev.frzK_i Ev.keyIn_i Ev.rI_nil Ev.rI_cons Ev.rI_row Ev.rI_app Ev.r_d Ev.r_nils Ev.r_agg Ev.r_rs Ev.r_gl Ev.vw_row Ev.vw_app Ev.appO_s Ev.frzT_gl Ev.allD_gl Ev.killAt_i Ev.tkOne_i Ev.hT_agg Ev.hT_vagg Ev.hT_int Ev.hT_bool Ev.hT_str Ev.hT_sl Ev.hT_ptr Ev.hT_np Ev.hT_p Ev.hT_rs Ev.hT_mp Ev.hT_nils Ev.hT_fn Ev.hT_jk Ev.hT_gl Ev.eO_sl Ev.eO_nils Ev.eO_rs Ev.eT_sl Ev.eT_rs Ev.pL_str Ev.pL_sl Ev.pL_rs Ev.pL_nils Ev.pL_min Ev.pL_max Ev.len_glB Ev.noTup_gl Ev.rowV_len Ev.rowV_nil Ev.rowV_cons Ev.rowV_append Ev.rowV_set Ev.rowV_replicate Ev.nth_row Ev.row_take Ev.row_drop Ev.toDs_row Ev.fin_row Ev.map_row Ev.map_take_ Ev.map_drop_ Ev.Bk_i Ev.GlB_0 Ev.GlB_mk Ev.gl_nil Ev.gl_cons Ev.gl_snoc Ev.gl_setN Ev.appendTo_gl Ev.consV_gl Ev.elems_gl Ev.fin_gl Ev.view_gl Ev.argv_gl Ev.topR_gl Ev.sp_z Ev.sp_0 Ev.sp_s Ev.km_z Ev.km_0 Ev.km_s Ev.beq_toList Ev.nc0 Ev.bq_t Ev.bq_f Ev.bodyN Ev.le_maxRow Int.cast_ofNat_Int IntWalk.i64_in IntWalk.u64_in IntWalk.u8_in beq_self_eq_true Bool.true_beq Bool.false_beq Bool.and_true Bool.true_and Bool.false_and Bool.and_false Bool.and_self Bool.not_true Bool.not_false Bool.not_eq_true cond_true cond_false if_true if_false and_true true_and and_self decide_true decide_false Bool.or_true Bool.true_or Bool.or_false Bool.false_or List.isEmpty List.isEmpty_nil List.size_toArray List.map List.length_map List.length_cons List.length_nil Option.map Option.bind Option.getD Option.isSome List.replicate Bool.false_eq_true implies_true false_implies forall_const Array.toList Array.isEmpty List.append List.nil_append List.cons_append List.drop_zero List.take_length List.take_succ_cons List.take_zero List.take_nil List.getElem?_map List.getElem?_cons_zero List.getElem?_cons_succ List.getElem?_nil List.append_nil eq_self Int.toNat_natCast List.length_append Nat.zero_add Nat.add_zero List.length_replicate Nat.sub_zero Option.map_some Option.map_none Int.le_refl Nat.le_refl Int.natCast_nonneg List.map_append
attribute [local go_sem_proc] Nat.reduceAdd Nat.reduceSub Nat.reduceMul Nat.reduceEqDiff Nat.reduceBEq Nat.reduceLT Nat.reduceLeDiff Nat.reducePow Int.reduceToNat Int.reduceLT Int.reduceLE Int.reduceGT Int.reduceGE Int.reduceEq Int.reduceNeg Int.reduceAdd Int.reduceSub Int.reduceMul reduceCtorEq
attribute [local go_sem_proc ↓] reduceIte
noncomputable def G_frac_size (L : Nat) : Specs := []
noncomputable def T_frac_size : Table := tableOf [(56, en56)]
theorem Go_frac_size (L : Nat) (hL : L ≤ 4611686018427387904) : ∀ g s, Ev.look (G_frac_size L) g = some s → SpecOk Try.prog g s := specs_nil
theorem To_frac_size (L : Nat) : TableOk Try.prog ((G_frac_size L).map (·.1)) T_frac_size := (table_cons Try.func56 (by kernel_rfl) (by kernel_rfl) table_nil)
attribute [local go_sem] Ty.tk2 Ty.ik2 Ty.ek2 Ty.zv2 Ty.by2 Ty.so2 Ty.tk4 Ty.ub4 Ty.ek4 Ty.zv4 Ty.by4 Ty.so4 Ty.tk98 Ty.ik98 Ty.ek98 Ty.zv98 Ty.by98 Ty.so98 E.mk56_1000000 loopN loops Try.f56
theorem e_frac_size (L : Nat) (hL : L ≤ 4611686018427387904) (a0 : Int) (res : Int) (h : p_frac_size L a0 = some res) : evTop Try.prog (G_frac_size L) T_frac_size L 1 56 [.int .i64 a0] = some [.int .u64 res] := by
  revert h
  unfold p_frac_size evTop
  simp only [List.map]
  rw [evF_s (fn := Try.f56) (msk := en56.ms) (hT := by rfl) (hb := by rfl)]
  refine ite_i (fun c1 => ?_) (fun c1 => ?_)
  · rintro ⟨⟩
    simp only [go_sem, *]
  · rintro ⟨⟩
    simp only [go_sem, *]
noncomputable def s_frac_size (L : Nat) : Ev.Spec := specP (cCons (cI .i64) cNil) (fun x => p_frac_size L x.1) (fun r => [.int .u64 r])
theorem s_frac_size_run (L : Nat) (a0 : Int) : (s_frac_size L).run [.int .i64 a0] = (p_frac_size L a0).map fun r => [.int .u64 r] := specP_run (cCons (cI .i64) cNil) (fun x => p_frac_size L x.1) (fun r => [.int .u64 r]) (a0, ())
theorem ok_frac_size (L : Nat) (hL : L ≤ 4611686018427387904) : SpecOk Try.prog 56 (s_frac_size L) := specP_ok mixed (Go_frac_size L hL) (To_frac_size L) fun x r h => ⟨L, 1, e_frac_size L hL x.1 r h⟩
def sk_frac_size : Ev.Spec := specK (c := (cCons (cI .i64) cNil)) (dCons (dI .i64) dNil) (fun x => p_frac_size 1000 x.1) (fun r => [.int .u64 r])
theorem okk_frac_size : SpecOk Try.prog 56 sk_frac_size := specK_ok (dCons (dI .i64) dNil) mixed (Go_frac_size 1000 (by decide)) (To_frac_size 1000) fun x r h => ⟨1000, 1, e_frac_size 1000 (by decide) x.1 r h⟩
end Go.Proofs.Ytnopgienncmcmaa.P
end
section
set_option linter.unusedVariables false
set_option linter.unusedSimpArgs false
set_option maxRecDepth 100000
namespace Go.Proofs.Ytnopgienncmcmaa.E
open Go.Ev
noncomputable def en58 : Entry := ⟨Try.f58, [(0, mb 20 0 [5, 6]), (1000001, mb 20 0 [5]), (1000002, mb 20 0 [5, 6]), (1000000, mb 20 0 [4])]⟩
theorem dw58_3 (lv : Nat) (env : List V) (st : Store) (o : Option (List V × Store)) : drawR en58.ms 3 lv env st o = if lv < 1000000000000000000000000000000 then (o) else none := nr rfl
theorem kl58_3 (lv : Nat) (st : Store) : killR en58.ms 3 lv st = st := nr rfl
theorem nc58_3 : ncOf en58.ms 3 = false := nr rfl
theorem mk58_0 (vs : List V) : mask (maskOf en58.ms 0) vs = km 20 0 [5, 6] vs := mask_mb _ _ _ _
theorem mk58_1000001 (vs : List V) : mask (maskOf en58.ms 1000001) vs = km 20 0 [5] vs := mask_mb _ _ _ _
theorem mk58_1000002 (vs : List V) : mask (maskOf en58.ms 1000002) vs = km 20 0 [5, 6] vs := mask_mb _ _ _ _
theorem mk58_1000000 (vs : List V) : mask (maskOf en58.ms 1000000) vs = km 20 0 [4] vs := mask_mb _ _ _ _
theorem fz58_0 (lv : Nat) (f : Run) : frzF en58.ms lv 0 f = f := nr rfl
theorem fi58_0 (lv : Nat) (env : List V) (st : Store) (q : Store → Out) : frzI en58.ms lv 0 env st q = q st := nr rfl
noncomputable def lb58_0 : Code := loopN Try.f58 0
end Go.Proofs.Ytnopgienncmcmaa.E
end
section
set_option linter.unusedVariables false
set_option linter.unusedSimpArgs false
set_option maxRecDepth 100000
namespace Go.Proofs.Ytnopgienncmcmaa.E
open Go.Ev
noncomputable def en77 : Entry := ⟨Try.f77, [(1000000, mb 10 0 [2])]⟩
theorem mk77_1000000 (vs : List V) : mask (maskOf en77.ms 1000000) vs = km 10 0 [2] vs := mask_mb _ _ _ _
end Go.Proofs.Ytnopgienncmcmaa.E
end
section
set_option linter.unusedVariables false
set_option linter.unusedSimpArgs false
set_option maxRecDepth 100000
namespace Go.Proofs.Ytnopgienncmcmaa.P
open Go.Ev Go.IntKind Go.Proofs.Ytnopgienncmcmaa Go.Proofs.Ytnopgienncmcmaa.Ty Go.Proofs.Ytnopgienncmcmaa.E
def p_num_size (L : Nat) (a0 : Int) : Option Int := if a0 < 0 then (some (u64.wrap (0 - (u64.wrap a0)))) else (some (u64.wrap a0))
attribute [local go_sem] Ev.putR_s Ev.putR_0 Ev.thenO_s Ev.thenO_0 Ev.seqR_n Ev.seqR_e Ev.seqR_r Ev.seqR_0 Ev.blkR_e Ev.blkR_n Ev.blkR_r Ev.blkR_0 Ev.normR_s Ev.normR_0 Ev.outR_r Ev.outR_n Ev.outR_0 Ev.retS_s Ev.retS_0 Ev.pureO_s Ev.pureO_0 Ev.topR_0 Ev.topR_t Ev.topR_t0 Ev.oneL_0 Ev.oneL_s Ev.topR_d Ev.topR_nils Ev.topR_agg Ev.topR_rs Ev.evOp_move Ev.evOp_assign Ev.evOp_pick Ev.evOp_alloc Ev.evOp_box Ev.evOp_build Ev.evOp_buildSlice Ev.evOp_load Ev.evOp_store Ev.evOp_makeMap Ev.evOp_lookup Ev.evOp_mapUpdate Ev.evOp_insert Ev.evOp_nilCheck Ev.evOp_binOp Ev.evOp_unOp Ev.evOp_convert Ev.evOp_makeFunc Ev.evOp_makeSlice Ev.evOp_slice Ev.evOp_fieldAddr Ev.evOp_field Ev.evOp_indexAddr Ev.evOp_index Ev.evOp_extract Ev.evOp_call Ev.evOp_append Ev.evOp_clear Ev.evOp_len Ev.evLen_d Ev.evLen_rs Ev.evLen_nils Ev.evLen_nila Ev.evLen_mp Ev.evOp_min Ev.evOp_max Ev.condR_b Ev.condR_t Ev.evOps_nil Ev.evOps_plain Ev.evOps_guard Ev.runG_eq Ev.skipG_eq Ev.condL_tt Ev.condL_ff Ev.condL_tf Ev.condL_ft Ev.condL_u Ev.condC_t Ev.condC_f Ev.evC_skip Ev.evC_ret Ev.evC_exit Ev.evC_label Ev.evC_region Ev.evC_draw Ev.evC_seq Ev.evC_cond Ev.evC_block Ev.evC_loop Ev.fin_d Ev.fin_nila Ev.fin_nils Ev.fin_agg_ Ev.fin_rs Ev.finS_s Ev.mapO_fin Ev.upd_upd Ev.argv_d Ev.argv_nila Ev.argv_nils Ev.argv_agg Ev.argv_rs Ev.argv_p Ev.fk_low Ev.appendTo_nils Ev.appendTo_nila Ev.appendTo_rs Ev.consV_d Ev.consV_agg Ev.consV_p Ev.consV_rs Ev.consV_nila Ev.consV_nils Ev.consV_fn Ev.consV_und Ev.consV_jk Ev.consV_grown Ev.topR_grown Ev.len_grown Ev.consV_nilm Ev.consV_mp Ev.sameK_i Ev.sameK_s Ev.mget_0 Ev.mget_hit Ev.mget_miss Ev.mput_0 Ev.mput_hit Ev.mput_miss Ev.apartAll Ev.apartL Ev.apartV Ev.freeAll Ev.sel Ev.keyOfV Ev.evLookup Ev.evPut Ev.hintOk Ev.keyOk Ev.consP Ev.lookV Ev.guardV Ev.dstAt Ev.evPure Ev.evStore Ev.evBin Ev.evBinO Ev.evNil Ev.isNilC Ev.evUn Ev.evConv Ev.evSlice Ev.optI Ev.foldI Ev.capsOk Ev.noTup Ev.nth Ev.setN Ev.killAt Ev.pad Ev.V.get Ev.V.put Ev.putD Ev.newBlk Ev.upd Ev.keq Ev.empty Ev.evCall Ev.V.args Ev.argP Ev.callOf Ev.evNilP Ev.isNilP Ev.look Ev.V.view.views Ev.V.view Ev.V.toD Ev.V.toD.V.toDs Ev.V.pure.pures Ev.V.pure Ev.D.flat.flats Ev.D.flat Ev.mkAgg Ev.allD Ev.aggParts Ev.setParts Ev.setElems Ev.getPath Ev.setPath Ev.subL Ev.eqD Ev.eqD.eqDs Ev.and2 Ev.strCut Ev.evalT Ev.constT Ev.evArgs Ev.mask Ev.maskOf Ev.tableOf Ev.compT Ev.resV Ev.retV Ev.mapO Ev.mx_u64 Ev.mx_u32 Ev.mx_u16 Ev.mx_u8 Ev.sg_i64 Ev.sg_i32 Ev.sg_i16 Ev.sg_i8 Ev.sg_u64 Ev.sg_u32 Ev.sg_u16 Ev.sg_u8 Ev.mapE_i Ev.mapV_nil Ev.hT_nilm Ev.mget_map Ev.mput_map Ev.mapV_put Ev.mapV_half Ev.hT_nila Ev.eO_nila Ev.pL_nila Ev.evLen_gl Ev.r_nila Ev.frzO_n Ev.frzO_e Ev.frzO_r Ev.frzO_0 Ev.mb_z Ev.mb_0 Ev.mb_s Ev.frzL_t Ev.frzL_f Ev.frzL_0 Ev.frzT_nils Ev.frzT_rs Ev.frzT_p Ev.frzK_i Ev.keyIn_i Ev.rI_nil Ev.rI_cons Ev.rI_row Ev.rI_app Ev.r_d Ev.r_nils Ev.r_agg Ev.r_rs Ev.r_gl Ev.vw_row Ev.vw_app Ev.appO_s Ev.frzT_gl Ev.allD_gl Ev.killAt_i Ev.tkOne_i Ev.hT_agg Ev.hT_vagg Ev.hT_int Ev.hT_bool Ev.hT_str Ev.hT_sl Ev.hT_ptr Ev.hT_np Ev.hT_p Ev.hT_rs Ev.hT_mp Ev.hT_nils Ev.hT_fn Ev.hT_jk Ev.hT_gl Ev.eO_sl Ev.eO_nils Ev.eO_rs Ev.eT_sl Ev.eT_rs Ev.pL_str Ev.pL_sl Ev.pL_rs Ev.pL_nils Ev.pL_min Ev.pL_max Ev.len_glB Ev.noTup_gl Ev.rowV_len Ev.rowV_nil Ev.rowV_cons Ev.rowV_append Ev.rowV_set Ev.rowV_replicate Ev.nth_row Ev.row_take Ev.row_drop Ev.toDs_row Ev.fin_row Ev.map_row Ev.map_take_ Ev.map_drop_ Ev.Bk_i Ev.GlB_0 Ev.GlB_mk Ev.gl_nil Ev.gl_cons Ev.gl_snoc Ev.gl_setN Ev.appendTo_gl Ev.consV_gl Ev.elems_gl Ev.fin_gl Ev.view_gl Ev.argv_gl Ev.topR_gl Ev.sp_z Ev.sp_0 Ev.sp_s Ev.km_z Ev.km_0 Ev.km_s Ev.beq_toList Ev.nc0 Ev.bq_t Ev.bq_f Ev.bodyN Ev.le_maxRow Int.cast_ofNat_Int IntWalk.i64_in IntWalk.u64_in IntWalk.u8_in beq_self_eq_true Bool.true_beq Bool.false_beq Bool.and_true Bool.true_and Bool.false_and Bool.and_false Bool.and_self Bool.not_true Bool.not_false Bool.not_eq_true cond_true cond_false if_true if_false and_true true_and and_self decide_true decide_false Bool.or_true Bool.true_or Bool.or_false Bool.false_or List.isEmpty List.isEmpty_nil List.size_toArray List.map List.length_map List.length_cons List.length_nil Option.map Option.bind Option.getD Option.isSome List.replicate Bool.false_eq_true implies_true false_implies forall_const Array.toList Array.isEmpty List.append List.nil_append List.cons_append List.drop_zero List.take_length List.take_succ_cons List.take_zero List.take_nil List.getElem?_map List.getElem?_cons_zero List.getElem?_cons_succ List.getElem?_nil List.append_nil eq_self Int.toNat_natCast List.length_append Nat.zero_add Nat.add_zero List.length_replicate Nat.sub_zero Option.map_some Option.map_none Int.le_refl Nat.le_refl Int.natCast_nonneg List.map_append
attribute [local go_sem_proc] Nat.reduceAdd Nat.reduceSub Nat.reduceMul Nat.reduceEqDiff Nat.reduceBEq Nat.reduceLT Nat.reduceLeDiff Nat.reducePow Int.reduceToNat Int.reduceLT Int.reduceLE Int.reduceGT Int.reduceGE Int.reduceEq Int.reduceNeg Int.reduceAdd Int.reduceSub Int.reduceMul reduceCtorEq
attribute [local go_sem_proc ↓] reduceIte
noncomputable def G_num_size (L : Nat) : Specs := []
noncomputable def T_num_size : Table := tableOf [(77, en77)]
theorem Go_num_size (L : Nat) (hL : L ≤ 4611686018427387904) : ∀ g s, Ev.look (G_num_size L) g = some s → SpecOk Try.prog g s := specs_nil
theorem To_num_size (L : Nat) : TableOk Try.prog ((G_num_size L).map (·.1)) T_num_size := (table_cons Try.func77 (by kernel_rfl) (by kernel_rfl) table_nil)
attribute [local go_sem] Ty.tk2 Ty.ik2 Ty.ek2 Ty.zv2 Ty.by2 Ty.so2 Ty.tk4 Ty.ub4 Ty.ek4 Ty.zv4 Ty.by4 Ty.so4 Ty.tk98 Ty.ik98 Ty.ek98 Ty.zv98 Ty.by98 Ty.so98 E.mk77_1000000 loopN loops Try.f77
theorem e_num_size (L : Nat) (hL : L ≤ 4611686018427387904) (a0 : Int) (res : Int) (h : p_num_size L a0 = some res) : evTop Try.prog (G_num_size L) T_num_size L 1 77 [.int .i64 a0] = some [.int .u64 res] := by
  revert h
  unfold p_num_size evTop
  simp only [List.map]
  rw [evF_s (fn := Try.f77) (msk := en77.ms) (hT := by rfl) (hb := by rfl)]
  refine ite_i (fun c1 => ?_) (fun c1 => ?_)
  · rintro ⟨⟩
    simp only [go_sem, *]
  · rintro ⟨⟩
    simp only [go_sem, *]
noncomputable def s_num_size (L : Nat) : Ev.Spec := specP (cCons (cI .i64) cNil) (fun x => p_num_size L x.1) (fun r => [.int .u64 r])
theorem s_num_size_run (L : Nat) (a0 : Int) : (s_num_size L).run [.int .i64 a0] = (p_num_size L a0).map fun r => [.int .u64 r] := specP_run (cCons (cI .i64) cNil) (fun x => p_num_size L x.1) (fun r => [.int .u64 r]) (a0, ())
theorem ok_num_size (L : Nat) (hL : L ≤ 4611686018427387904) : SpecOk Try.prog 77 (s_num_size L) := specP_ok mixed (Go_num_size L hL) (To_num_size L) fun x r h => ⟨L, 1, e_num_size L hL x.1 r h⟩
end Go.Proofs.Ytnopgienncmcmaa.P
end
section
set_option linter.unusedVariables false
set_option linter.unusedSimpArgs false
set_option maxRecDepth 100000
namespace Go.Proofs.Ytnopgienncmcmaa.P
open Go.Ev Go.IntKind Go.Proofs.Ytnopgienncmcmaa Go.Proofs.Ytnopgienncmcmaa.Ty Go.Proofs.Ytnopgienncmcmaa.E
def p_num_Gcd_l0 (L : Nat)  : Nat → Int → Int → Option Int
  | 0, _, _ => none
  | tl + 1, s4, s5 => if s5 > 0 then (rq (¬ s5 = 0) <| p_num_Gcd_l0 L  tl s5 (s4.tmod s5)) else (some s4)
def p_num_Gcd (L : Nat) (a0 : Int) (a1 : Int) : Option Int := bnd (p_num_size L a0) fun r1 => bnd (p_num_size L a1) fun r2 => bnd (p_num_Gcd_l0 L L r1 r2) fun o6 => some (i64.wrap (bitsI .andNot .u64 o6 9223372036854775808))
attribute [local go_sem] Ev.putR_s Ev.putR_0 Ev.thenO_s Ev.thenO_0 Ev.seqR_n Ev.seqR_e Ev.seqR_r Ev.seqR_0 Ev.blkR_e Ev.blkR_n Ev.blkR_r Ev.blkR_0 Ev.normR_s Ev.normR_0 Ev.outR_r Ev.outR_n Ev.outR_0 Ev.retS_s Ev.retS_0 Ev.pureO_s Ev.pureO_0 Ev.topR_0 Ev.topR_t Ev.topR_t0 Ev.oneL_0 Ev.oneL_s Ev.topR_d Ev.topR_nils Ev.topR_agg Ev.topR_rs Ev.evOp_move Ev.evOp_assign Ev.evOp_pick Ev.evOp_alloc Ev.evOp_box Ev.evOp_build Ev.evOp_buildSlice Ev.evOp_load Ev.evOp_store Ev.evOp_makeMap Ev.evOp_lookup Ev.evOp_mapUpdate Ev.evOp_insert Ev.evOp_nilCheck Ev.evOp_binOp Ev.evOp_unOp Ev.evOp_convert Ev.evOp_makeFunc Ev.evOp_makeSlice Ev.evOp_slice Ev.evOp_fieldAddr Ev.evOp_field Ev.evOp_indexAddr Ev.evOp_index Ev.evOp_extract Ev.evOp_call Ev.evOp_append Ev.evOp_clear Ev.evOp_len Ev.evLen_d Ev.evLen_rs Ev.evLen_nils Ev.evLen_nila Ev.evLen_mp Ev.evOp_min Ev.evOp_max Ev.condR_b Ev.condR_t Ev.evOps_nil Ev.evOps_plain Ev.evOps_guard Ev.runG_eq Ev.skipG_eq Ev.condL_tt Ev.condL_ff Ev.condL_tf Ev.condL_ft Ev.condL_u Ev.condC_t Ev.condC_f Ev.evC_skip Ev.evC_ret Ev.evC_exit Ev.evC_label Ev.evC_region Ev.evC_draw Ev.evC_seq Ev.evC_cond Ev.evC_block Ev.evC_loop Ev.fin_d Ev.fin_nila Ev.fin_nils Ev.fin_agg_ Ev.fin_rs Ev.finS_s Ev.mapO_fin Ev.upd_upd Ev.argv_d Ev.argv_nila Ev.argv_nils Ev.argv_agg Ev.argv_rs Ev.argv_p Ev.fk_low Ev.appendTo_nils Ev.appendTo_nila Ev.appendTo_rs Ev.consV_d Ev.consV_agg Ev.consV_p Ev.consV_rs Ev.consV_nila Ev.consV_nils Ev.consV_fn Ev.consV_und Ev.consV_jk Ev.consV_grown Ev.topR_grown Ev.len_grown Ev.consV_nilm Ev.consV_mp Ev.sameK_i Ev.sameK_s Ev.mget_0 Ev.mget_hit Ev.mget_miss Ev.mput_0 Ev.mput_hit Ev.mput_miss Ev.apartAll Ev.apartL Ev.apartV Ev.freeAll Ev.sel Ev.keyOfV Ev.evLookup Ev.evPut Ev.hintOk Ev.keyOk Ev.consP Ev.lookV Ev.guardV Ev.dstAt Ev.evPure Ev.evStore Ev.evBin Ev.evBinO Ev.evNil Ev.isNilC Ev.evUn Ev.evConv Ev.evSlice Ev.optI Ev.foldI Ev.capsOk Ev.noTup Ev.nth Ev.setN Ev.killAt Ev.pad Ev.V.get Ev.V.put Ev.putD Ev.newBlk Ev.upd Ev.keq Ev.empty Ev.evCall Ev.V.args Ev.argP Ev.callOf Ev.evNilP Ev.isNilP Ev.look Ev.V.view.views Ev.V.view Ev.V.toD Ev.V.toD.V.toDs Ev.V.pure.pures Ev.V.pure Ev.D.flat.flats Ev.D.flat Ev.mkAgg Ev.allD Ev.aggParts Ev.setParts Ev.setElems Ev.getPath Ev.setPath Ev.subL Ev.eqD Ev.eqD.eqDs Ev.and2 Ev.strCut Ev.evalT Ev.constT Ev.evArgs Ev.mask Ev.maskOf Ev.tableOf Ev.compT Ev.resV Ev.retV Ev.mapO Ev.mx_u64 Ev.mx_u32 Ev.mx_u16 Ev.mx_u8 Ev.sg_i64 Ev.sg_i32 Ev.sg_i16 Ev.sg_i8 Ev.sg_u64 Ev.sg_u32 Ev.sg_u16 Ev.sg_u8 Ev.mapE_i Ev.mapV_nil Ev.hT_nilm Ev.mget_map Ev.mput_map Ev.mapV_put Ev.mapV_half Ev.hT_nila Ev.eO_nila Ev.pL_nila Ev.evLen_gl Ev.r_nila Ev.frzO_n Ev.frzO_e Ev.frzO_r Ev.frzO_0 Ev.mb_z Ev.mb_0 Ev.mb_s Ev.frzL_t Ev.frzL_f Ev.frzL_0 Ev.frzT_nils Ev.frzT_rs Ev.frzT_p Ev.frzK_i Ev.keyIn_i Ev.rI_nil Ev.rI_cons Ev.rI_row Ev.rI_app Ev.r_d Ev.r_nils Ev.r_agg Ev.r_rs Ev.r_gl Ev.vw_row Ev.vw_app Ev.appO_s Ev.frzT_gl Ev.allD_gl Ev.killAt_i Ev.tkOne_i Ev.hT_agg Ev.hT_vagg Ev.hT_int Ev.hT_bool Ev.hT_str Ev.hT_sl Ev.hT_ptr Ev.hT_np Ev.hT_p Ev.hT_rs Ev.hT_mp Ev.hT_nils Ev.hT_fn Ev.hT_jk Ev.hT_gl Ev.eO_sl Ev.eO_nils Ev.eO_rs Ev.eT_sl Ev.eT_rs Ev.pL_str Ev.pL_sl Ev.pL_rs Ev.pL_nils Ev.pL_min Ev.pL_max Ev.len_glB Ev.noTup_gl Ev.rowV_len Ev.rowV_nil Ev.rowV_cons Ev.rowV_append Ev.rowV_set Ev.rowV_replicate Ev.nth_row Ev.row_take Ev.row_drop Ev.toDs_row Ev.fin_row Ev.map_row Ev.map_take_ Ev.map_drop_ Ev.Bk_i Ev.GlB_0 Ev.GlB_mk Ev.gl_nil Ev.gl_cons Ev.gl_snoc Ev.gl_setN Ev.appendTo_gl Ev.consV_gl Ev.elems_gl Ev.fin_gl Ev.view_gl Ev.argv_gl Ev.topR_gl Ev.sp_z Ev.sp_0 Ev.sp_s Ev.km_z Ev.km_0 Ev.km_s Ev.beq_toList Ev.nc0 Ev.bq_t Ev.bq_f Ev.bodyN Ev.le_maxRow Int.cast_ofNat_Int IntWalk.i64_in IntWalk.u64_in IntWalk.u8_in beq_self_eq_true Bool.true_beq Bool.false_beq Bool.and_true Bool.true_and Bool.false_and Bool.and_false Bool.and_self Bool.not_true Bool.not_false Bool.not_eq_true cond_true cond_false if_true if_false and_true true_and and_self decide_true decide_false Bool.or_true Bool.true_or Bool.or_false Bool.false_or List.isEmpty List.isEmpty_nil List.size_toArray List.map List.length_map List.length_cons List.length_nil Option.map Option.bind Option.getD Option.isSome List.replicate Bool.false_eq_true implies_true false_implies forall_const Array.toList Array.isEmpty List.append List.nil_append List.cons_append List.drop_zero List.take_length List.take_succ_cons List.take_zero List.take_nil List.getElem?_map List.getElem?_cons_zero List.getElem?_cons_succ List.getElem?_nil List.append_nil eq_self Int.toNat_natCast List.length_append Nat.zero_add Nat.add_zero List.length_replicate Nat.sub_zero Option.map_some Option.map_none Int.le_refl Nat.le_refl Int.natCast_nonneg List.map_append
attribute [local go_sem_proc] Nat.reduceAdd Nat.reduceSub Nat.reduceMul Nat.reduceEqDiff Nat.reduceBEq Nat.reduceLT Nat.reduceLeDiff Nat.reducePow Int.reduceToNat Int.reduceLT Int.reduceLE Int.reduceGT Int.reduceGE Int.reduceEq Int.reduceNeg Int.reduceAdd Int.reduceSub Int.reduceMul reduceCtorEq
attribute [local go_sem_proc ↓] reduceIte
noncomputable def G_num_Gcd (L : Nat) : Specs := [(77, s_num_size L)]
noncomputable def T_num_Gcd : Table := tableOf [(58, en58)]
theorem Go_num_Gcd (L : Nat) (hL : L ≤ 4611686018427387904) : ∀ g s, Ev.look (G_num_Gcd L) g = some s → SpecOk Try.prog g s := (specs_cons (ok_num_size L hL) specs_nil)
theorem To_num_Gcd (L : Nat) : TableOk Try.prog ((G_num_Gcd L).map (·.1)) T_num_Gcd := (table_cons Try.func58 (by kernel_rfl) (by kernel_rfl) table_nil)
theorem lk_num_Gcd_77 (L : Nat) : Ev.look (G_num_Gcd L) 77 = some (s_num_size L) := nr rfl
attribute [local go_sem] Ty.tk2 Ty.ik2 Ty.ek2 Ty.zv2 Ty.by2 Ty.so2 Ty.tk4 Ty.ub4 Ty.ek4 Ty.zv4 Ty.by4 Ty.so4 Ty.tk98 Ty.ik98 Ty.ek98 Ty.zv98 Ty.by98 Ty.so98 E.dw58_3 E.kl58_3 E.nc58_3 E.mk58_0 E.mk58_1000001 E.mk58_1000002 E.mk58_1000000 E.fz58_0 E.fi58_0 E.lb58_0 lk_num_Gcd_77 s_num_size_run loopN loops Try.f58
def Q0_p_num_Gcd_l0  (u : Int) (z : Out) : Prop := ∃ env st, z = some (.exit 0, env, st) ∧ env = sp 20 0 [(5, .d (.int .u64 u))]
abbrev Q_p_num_Gcd_l0  (o : Int) (z : Out) : Prop := Q0_p_num_Gcd_l0  o z
theorem l_p_num_Gcd_l0 (L : Nat) (hL : L ≤ 4611686018427387904)  : ∀ (n : Nat) (s4 : Int) (s5 : Int) (env : List V) (st : Store) (o : Int), mask (maskOf en58.ms 0) env = sp 20 0 [(5, .d (.int .u64 s4)), (6, .d (.int .u64 s5))] → p_num_Gcd_l0 L  n s4 s5 = some o →
    Q_p_num_Gcd_l0  o (iter (evC Try.prog (G_num_Gcd L) (evF Try.prog (G_num_Gcd L) T_num_Gcd L 0) L en58.ms 0 0 lb58_0) (maskOf en58.ms 0) n env st) := by
  intro n
  induction n with
  | zero => intro s4 s5 env st o he  h; cases h
  | succ n ih =>
    intro s4 s5 env st o he  h
    replace ih : Hold _ := ih
    rw [iter, he]
    clear he
    generalize hK : iter _ _ n = K
    rw [p_num_Gcd_l0] at h
    revert h
    refine ite_i (fun c1 => ?_) (fun c1 => ?_)
    · refine rq_i fun c2 => ?_
      intro h
      simp only [go_sem, *]
      subst hK
      refine ih  s5 (s4.tmod s5) _ _ _ ?_ h
      all_goals simp only [go_sem, *]
    · rintro ⟨⟩
      simp only [go_sem, *]
      refine (⟨_, _, rfl, ?_⟩ : Q0_p_num_Gcd_l0  _ _)
      all_goals simp only [go_sem, *]
theorem e_num_Gcd (L : Nat) (hL : L ≤ 4611686018427387904) (a0 : Int) (a1 : Int) (res : Int) (h : p_num_Gcd L a0 a1 = some res) : evTop Try.prog (G_num_Gcd L) T_num_Gcd L 1 58 [.int .i64 a0, .int .i64 a1] = some [.int .i64 res] := by
  revert h
  unfold p_num_Gcd evTop
  simp only [List.map]
  rw [evF_s (fn := Try.f58) (msk := en58.ms) (hT := by rfl) (hb := by rfl)]
  refine bnd_i fun r1 c1 => ?_
  refine bnd_i fun r2 c2 => ?_
  refine bnd_i fun o6 ho3 => ?_
  intro h
  simp only [go_sem, *]
  generalize hz5 : iter _ _ _ _ _ = z4
  have hq6 : Q_p_num_Gcd_l0 o6 z4 := by
    rw [← hz5]
    refine l_p_num_Gcd_l0 L hL  L r1 r2 _ _ _  ?_ ho3
    all_goals simp only [go_sem, *]
  clear hz5 ho3
  obtain ⟨_, st7, rfl, rfl⟩ := hq6
  revert h
  rintro ⟨⟩
  simp only [go_sem, *]
noncomputable def s_num_Gcd (L : Nat) : Ev.Spec := specP (cCons (cI .i64) (cCons (cI .i64) cNil)) (fun x => p_num_Gcd L x.1 x.2.1) (fun r => [.int .i64 r])
theorem s_num_Gcd_run (L : Nat) (a0 : Int) (a1 : Int) : (s_num_Gcd L).run [.int .i64 a0, .int .i64 a1] = (p_num_Gcd L a0 a1).map fun r => [.int .i64 r] := specP_run (cCons (cI .i64) (cCons (cI .i64) cNil)) (fun x => p_num_Gcd L x.1 x.2.1) (fun r => [.int .i64 r]) (a0, a1, ())
theorem ok_num_Gcd (L : Nat) (hL : L ≤ 4611686018427387904) : SpecOk Try.prog 58 (s_num_Gcd L) := specP_ok mixed (Go_num_Gcd L hL) (To_num_Gcd L) fun x r h => ⟨L, 1, e_num_Gcd L hL x.1 x.2.1 r h⟩
def sk_num_Gcd : Ev.Spec := specK (c := (cCons (cI .i64) (cCons (cI .i64) cNil))) (dCons (dI .i64) (dCons (dI .i64) dNil)) (fun x => p_num_Gcd 1000 x.1 x.2.1) (fun r => [.int .i64 r])
theorem okk_num_Gcd : SpecOk Try.prog 58 sk_num_Gcd := specK_ok (dCons (dI .i64) (dCons (dI .i64) dNil)) mixed (Go_num_Gcd 1000 (by decide)) (To_num_Gcd 1000) fun x r h => ⟨1000, 1, e_num_Gcd 1000 (by decide) x.1 x.2.1 r h⟩
end Go.Proofs.Ytnopgienncmcmaa.P
end
section
set_option linter.unusedVariables false
set_option linter.unusedSimpArgs false
set_option maxRecDepth 100000
namespace Go.Proofs.Ytnopgienncmcmaa.E
open Go.Ev
noncomputable def en59 : Entry := ⟨Try.f59, [(1000000, mb 20 0 [4, 5])]⟩
theorem mk59_1000000 (vs : List V) : mask (maskOf en59.ms 1000000) vs = km 20 0 [4, 5] vs := mask_mb _ _ _ _
end Go.Proofs.Ytnopgienncmcmaa.E
end
section
set_option linter.unusedVariables false
set_option linter.unusedSimpArgs false
set_option maxRecDepth 100000
namespace Go.Proofs.Ytnopgienncmcmaa.E
open Go.Ev
noncomputable def en78 : Entry := ⟨Try.f78, [(1000000, mb 28 0 [4])]⟩
theorem mk78_1000000 (vs : List V) : mask (maskOf en78.ms 1000000) vs = km 28 0 [4] vs := mask_mb _ _ _ _
end Go.Proofs.Ytnopgienncmcmaa.E
end
section
set_option linter.unusedVariables false
set_option linter.unusedSimpArgs false
set_option maxRecDepth 100000
namespace Go.Proofs.Ytnopgienncmcmaa.E
open Go.Ev
noncomputable def en85 : Entry := ⟨Try.f85, [(1000000, mb 51 0 [4, 5])]⟩
theorem mk85_1000000 (vs : List V) : mask (maskOf en85.ms 1000000) vs = km 51 0 [4, 5] vs := mask_mb _ _ _ _
end Go.Proofs.Ytnopgienncmcmaa.E
end
section
set_option linter.unusedVariables false
set_option linter.unusedSimpArgs false
set_option maxRecDepth 100000
namespace Go.Proofs.Ytnopgienncmcmaa.P
open Go.Ev Go.IntKind Go.Proofs.Ytnopgienncmcmaa Go.Proofs.Ytnopgienncmcmaa.Ty Go.Proofs.Ytnopgienncmcmaa.E
def p_bits_Mul64 (L : Nat) (a0 : Int) (a1 : Int) : Option (Int × Int) := some ((u64.wrap ((u64.wrap ((u64.wrap ((shrI .u64 a0 32) * (shrI .u64 a1 32))) + (shrI .u64 (u64.wrap ((u64.wrap ((shrI .u64 a0 32) * (bitsI .and .u64 a1 4294967295))) + (shrI .u64 (u64.wrap ((bitsI .and .u64 a0 4294967295) * (bitsI .and .u64 a1 4294967295))) 32))) 32))) + (shrI .u64 (u64.wrap ((bitsI .and .u64 (u64.wrap ((u64.wrap ((shrI .u64 a0 32) * (bitsI .and .u64 a1 4294967295))) + (shrI .u64 (u64.wrap ((bitsI .and .u64 a0 4294967295) * (bitsI .and .u64 a1 4294967295))) 32))) 4294967295) + (u64.wrap ((bitsI .and .u64 a0 4294967295) * (shrI .u64 a1 32))))) 32))), (u64.wrap (a0 * a1)))
attribute [local go_sem] Ev.putR_s Ev.putR_0 Ev.thenO_s Ev.thenO_0 Ev.seqR_n Ev.seqR_e Ev.seqR_r Ev.seqR_0 Ev.blkR_e Ev.blkR_n Ev.blkR_r Ev.blkR_0 Ev.normR_s Ev.normR_0 Ev.outR_r Ev.outR_n Ev.outR_0 Ev.retS_s Ev.retS_0 Ev.pureO_s Ev.pureO_0 Ev.topR_0 Ev.topR_t Ev.topR_t0 Ev.oneL_0 Ev.oneL_s Ev.topR_d Ev.topR_nils Ev.topR_agg Ev.topR_rs Ev.evOp_move Ev.evOp_assign Ev.evOp_pick Ev.evOp_alloc Ev.evOp_box Ev.evOp_build Ev.evOp_buildSlice Ev.evOp_load Ev.evOp_store Ev.evOp_makeMap Ev.evOp_lookup Ev.evOp_mapUpdate Ev.evOp_insert Ev.evOp_nilCheck Ev.evOp_binOp Ev.evOp_unOp Ev.evOp_convert Ev.evOp_makeFunc Ev.evOp_makeSlice Ev.evOp_slice Ev.evOp_fieldAddr Ev.evOp_field Ev.evOp_indexAddr Ev.evOp_index Ev.evOp_extract Ev.evOp_call Ev.evOp_append Ev.evOp_clear Ev.evOp_len Ev.evLen_d Ev.evLen_rs Ev.evLen_nils Ev.evLen_nila Ev.evLen_mp Ev.evOp_min Ev.evOp_max Ev.condR_b Ev.condR_t Ev.evOps_nil Ev.evOps_plain Ev.evOps_guard Ev.runG_eq Ev.skipG_eq Ev.condL_tt Ev.condL_ff Ev.condL_tf Ev.condL_ft Ev.condL_u Ev.condC_t Ev.condC_f Ev.evC_skip Ev.evC_ret Ev.evC_exit Ev.evC_label Ev.evC_region Ev.evC_draw Ev.evC_seq Ev.evC_cond Ev.evC_block Ev.evC_loop Ev.fin_d Ev.fin_nila Ev.fin_nils Ev.fin_agg_ Ev.fin_rs Ev.finS_s Ev.mapO_fin Ev.upd_upd Ev.argv_d Ev.argv_nila Ev.argv_nils Ev.argv_agg Ev.argv_rs Ev.argv_p Ev.fk_low Ev.appendTo_nils Ev.appendTo_nila Ev.appendTo_rs Ev.consV_d Ev.consV_agg Ev.consV_p Ev.consV_rs Ev.consV_nila Ev.consV_nils Ev.consV_fn Ev.consV_und Ev.consV_jk Ev.consV_grown Ev.topR_grown Ev.len_grown Ev.consV_nilm Ev.consV_mp Ev.sameK_i Ev.sameK_s Ev.mget_0 Ev.mget_hit Ev.mget_miss Ev.mput_0 Ev.mput_hit Ev.mput_miss Ev.apartAll Ev.apartL Ev.apartV Ev.freeAll Ev.sel Ev.keyOfV Ev.evLookup Ev.evPut Ev.hintOk Ev.keyOk Ev.consP Ev.lookV Ev.guardV Ev.dstAt Ev.evPure Ev.evStore Ev.evBin Ev.evBinO Ev.evNil Ev.isNilC Ev.evUn Ev.evConv Ev.evSlice Ev.optI Ev.foldI Ev.capsOk Ev.noTup Ev.nth Ev.setN Ev.killAt Ev.pad Ev.V.get Ev.V.put Ev.putD Ev.newBlk Ev.upd Ev.keq Ev.empty Ev.evCall Ev.V.args Ev.argP Ev.callOf Ev.evNilP Ev.isNilP Ev.look Ev.V.view.views Ev.V.view Ev.V.toD Ev.V.toD.V.toDs Ev.V.pure.pures Ev.V.pure Ev.D.flat.flats Ev.D.flat Ev.mkAgg Ev.allD Ev.aggParts Ev.setParts Ev.setElems Ev.getPath Ev.setPath Ev.subL Ev.eqD Ev.eqD.eqDs Ev.and2 Ev.strCut Ev.evalT Ev.constT Ev.evArgs Ev.mask Ev.maskOf Ev.tableOf Ev.compT Ev.resV Ev.retV Ev.mapO Ev.mx_u64 Ev.mx_u32 Ev.mx_u16 Ev.mx_u8 Ev.sg_i64 Ev.sg_i32 Ev.sg_i16 Ev.sg_i8 Ev.sg_u64 Ev.sg_u32 Ev.sg_u16 Ev.sg_u8 Ev.mapE_i Ev.mapV_nil Ev.hT_nilm Ev.mget_map Ev.mput_map Ev.mapV_put Ev.mapV_half Ev.hT_nila Ev.eO_nila Ev.pL_nila Ev.evLen_gl Ev.r_nila Ev.frzO_n Ev.frzO_e Ev.frzO_r Ev.frzO_0 Ev.mb_z Ev.mb_0 Ev.mb_s Ev.frzL_t Ev.frzL_f Ev.frzL_0 Ev.frzT_nils Ev.frzT_rs Ev.frzT_p Ev.frzK_i Ev.keyIn_i Ev.rI_nil Ev.rI_cons Ev.rI_row Ev.rI_app Ev.r_d Ev.r_nils Ev.r_agg Ev.r_rs Ev.r_gl Ev.vw_row Ev.vw_app Ev.appO_s Ev.frzT_gl Ev.allD_gl Ev.killAt_i Ev.tkOne_i Ev.hT_agg Ev.hT_vagg Ev.hT_int Ev.hT_bool Ev.hT_str Ev.hT_sl Ev.hT_ptr Ev.hT_np Ev.hT_p Ev.hT_rs Ev.hT_mp Ev.hT_nils Ev.hT_fn Ev.hT_jk Ev.hT_gl Ev.eO_sl Ev.eO_nils Ev.eO_rs Ev.eT_sl Ev.eT_rs Ev.pL_str Ev.pL_sl Ev.pL_rs Ev.pL_nils Ev.pL_min Ev.pL_max Ev.len_glB Ev.noTup_gl Ev.rowV_len Ev.rowV_nil Ev.rowV_cons Ev.rowV_append Ev.rowV_set Ev.rowV_replicate Ev.nth_row Ev.row_take Ev.row_drop Ev.toDs_row Ev.fin_row Ev.map_row Ev.map_take_ Ev.map_drop_ Ev.Bk_i Ev.GlB_0 Ev.GlB_mk Ev.gl_nil Ev.gl_cons Ev.gl_snoc Ev.gl_setN Ev.appendTo_gl Ev.consV_gl Ev.elems_gl Ev.fin_gl Ev.view_gl Ev.argv_gl Ev.topR_gl Ev.sp_z Ev.sp_0 Ev.sp_s Ev.km_z Ev.km_0 Ev.km_s Ev.beq_toList Ev.nc0 Ev.bq_t Ev.bq_f Ev.bodyN Ev.le_maxRow Int.cast_ofNat_Int IntWalk.i64_in IntWalk.u64_in IntWalk.u8_in beq_self_eq_true Bool.true_beq Bool.false_beq Bool.and_true Bool.true_and Bool.false_and Bool.and_false Bool.and_self Bool.not_true Bool.not_false Bool.not_eq_true cond_true cond_false if_true if_false and_true true_and and_self decide_true decide_false Bool.or_true Bool.true_or Bool.or_false Bool.false_or List.isEmpty List.isEmpty_nil List.size_toArray List.map List.length_map List.length_cons List.length_nil Option.map Option.bind Option.getD Option.isSome List.replicate Bool.false_eq_true implies_true false_implies forall_const Array.toList Array.isEmpty List.append List.nil_append List.cons_append List.drop_zero List.take_length List.take_succ_cons List.take_zero List.take_nil List.getElem?_map List.getElem?_cons_zero List.getElem?_cons_succ List.getElem?_nil List.append_nil eq_self Int.toNat_natCast List.length_append Nat.zero_add Nat.add_zero List.length_replicate Nat.sub_zero Option.map_some Option.map_none Int.le_refl Nat.le_refl Int.natCast_nonneg List.map_append
attribute [local go_sem_proc] Nat.reduceAdd Nat.reduceSub Nat.reduceMul Nat.reduceEqDiff Nat.reduceBEq Nat.reduceLT Nat.reduceLeDiff Nat.reducePow Int.reduceToNat Int.reduceLT Int.reduceLE Int.reduceGT Int.reduceGE Int.reduceEq Int.reduceNeg Int.reduceAdd Int.reduceSub Int.reduceMul reduceCtorEq
attribute [local go_sem_proc ↓] reduceIte
noncomputable def G_bits_Mul64 (L : Nat) : Specs := []
noncomputable def T_bits_Mul64 : Table := tableOf [(85, en85)]
theorem Go_bits_Mul64 (L : Nat) (hL : L ≤ 4611686018427387904) : ∀ g s, Ev.look (G_bits_Mul64 L) g = some s → SpecOk Try.prog g s := specs_nil
theorem To_bits_Mul64 (L : Nat) : TableOk Try.prog ((G_bits_Mul64 L).map (·.1)) T_bits_Mul64 := (table_cons Try.func85 (by kernel_rfl) (by kernel_rfl) table_nil)
attribute [local go_sem] Ty.tk78 Ty.ik78 Ty.ek78 Ty.zv78 Ty.by78 Ty.so78 Ty.tk98 Ty.ik98 Ty.ek98 Ty.zv98 Ty.by98 Ty.so98 E.mk85_1000000 loopN loops Try.f85
theorem e_bits_Mul64 (L : Nat) (hL : L ≤ 4611686018427387904) (a0 : Int) (a1 : Int) (res : Int × Int) (h : p_bits_Mul64 L a0 a1 = some res) : evTop Try.prog (G_bits_Mul64 L) T_bits_Mul64 L 1 85 [.int .u64 a0, .int .u64 a1] = some [.int .u64 res.1, .int .u64 res.2] := by
  revert h
  unfold p_bits_Mul64 evTop
  simp only [List.map]
  rw [evF_s (fn := Try.f85) (msk := en85.ms) (hT := by rfl) (hb := by rfl)]
  rintro ⟨⟩
  simp only [go_sem, *]
noncomputable def s_bits_Mul64 (L : Nat) : Ev.Spec := specP (cCons (cI .u64) (cCons (cI .u64) cNil)) (fun x => p_bits_Mul64 L x.1 x.2.1) (fun r => [.int .u64 r.1, .int .u64 r.2])
theorem s_bits_Mul64_run (L : Nat) (a0 : Int) (a1 : Int) : (s_bits_Mul64 L).run [.int .u64 a0, .int .u64 a1] = (p_bits_Mul64 L a0 a1).map fun r => [.int .u64 r.1, .int .u64 r.2] := specP_run (cCons (cI .u64) (cCons (cI .u64) cNil)) (fun x => p_bits_Mul64 L x.1 x.2.1) (fun r => [.int .u64 r.1, .int .u64 r.2]) (a0, a1, ())
theorem ok_bits_Mul64 (L : Nat) (hL : L ≤ 4611686018427387904) : SpecOk Try.prog 85 (s_bits_Mul64 L) := specP_ok mixed (Go_bits_Mul64 L hL) (To_bits_Mul64 L) fun x r h => ⟨L, 1, e_bits_Mul64 L hL x.1 x.2.1 r h⟩
end Go.Proofs.Ytnopgienncmcmaa.P
end
section
set_option linter.unusedVariables false
set_option linter.unusedSimpArgs false
set_option maxRecDepth 100000
namespace Go.Proofs.Ytnopgienncmcmaa.E
open Go.Ev
noncomputable def en86 : Entry := ⟨Try.f86, [(1000000, mb 27 0 [2])]⟩
theorem mk86_1000000 (vs : List V) : mask (maskOf en86.ms 1000000) vs = km 27 0 [2] vs := mask_mb _ _ _ _
end Go.Proofs.Ytnopgienncmcmaa.E
end
section
set_option linter.unusedVariables false
set_option linter.unusedSimpArgs false
set_option maxRecDepth 100000
namespace Go.Proofs.Ytnopgienncmcmaa.P
open Go Go.Ev
def c3 (k : IntKind) : CodL (Int × Int × Int) := cCons (cI k) (cCons (cI k) (cOne (cI k)))
def U (x : Int) : Prop := 0 ≤ x ∧ x < 18446744073709551616
def I (x : Int) : Prop := -9223372036854775808 ≤ x ∧ x < 9223372036854775808
noncomputable def sAdd : Ev.Spec := specC (c3 .u64) (fun x => U x.1 ∧ U x.2.1 ∧ 0 ≤ x.2.2 ∧ x.2.2 ≤ 1) fun x => [.int .u64 ((x.1 + x.2.1 + x.2.2) % 18446744073709551616), .int .u64 ((x.1 + x.2.1 + x.2.2) / 18446744073709551616)]
theorem sAdd_run (x y c : Int) (hx : U x) (hy : U y) (h0 : 0 ≤ c) (h1 : c ≤ 1) : sAdd.run [.int .u64 x, .int .u64 y, .int .u64 c] = some [.int .u64 ((x + y + c) % 18446744073709551616), .int .u64 ((x + y + c) / 18446744073709551616)] := specC_run (c3 .u64) _ _ (x, y, c) ⟨hx, hy, h0, h1⟩
theorem sAdd_ok : SpecOk Try.prog 88 sAdd := by
  intro xs rs S w vals hrun hS hargs
  unfold sAdd specC at hrun
  obtain ⟨⟨x, y, c⟩, rfl, ⟨hx, hy, h0, h1⟩, rfl⟩ := mkSpec_inv hrun
  have hr := hargs (fun _ => none) empty
  obtain ⟨v1, r1, rfl, a1, hr⟩ := hr
  obtain ⟨v2, r2, rfl, a2, hr⟩ := hr
  obtain ⟨v3, r3, rfl, a3, hr⟩ := hr
  cases hr
  have e1 := relV_int (RelN.to_v a1)
  have e2 := relV_int (RelN.to_v a2)
  have e3 := relV_int (RelN.to_v a3)
  subst e1 e2 e3
  refine .inr ⟨.tuple #[.int .u64 ((x + y + c) % 18446744073709551616), .int .u64 ((x + y + c) / 18446744073709551616)], w, ?_, RowKit.Below.refl _ _, ?_⟩
  · rw [run_callFunc_extern Try.func88 (by kernel_rfl) (by kernel_rfl) (by kernel_rfl) (e := add64Entry) (by kernel_rfl)]
    simp only [run_add64 x y c hx.1 hy.1 h0 h1, Result.andThen_ok]
  · intro σ st
    exact ⟨[_, _], rfl, ⟨_, _, rfl, .inr (.inr ⟨rfl, rfl⟩), ⟨_, _, rfl, .inr (.inr ⟨rfl, rfl⟩), rfl⟩⟩⟩
theorem specP_weak {P : Program} {f : FuncId} {α β : Type} {c : CodL α} {p : α → Option β} {res : β → List D} {old : Ev.Spec} (ho : SpecOk P f old) (h : ∀ x r, p x = some r → old.run (c.e x) = some (res r)) : SpecOk P f (specP c p res) :=
  SpecOk.weak ho fun xs rs hr => by
    unfold specP specC at hr
    obtain ⟨x, rfl, hp, rfl⟩ := mkSpec_inv hr
    cases hx : p x with
    | none => rw [hx] at hp; cases hp
    | some r => simp only; exact h x r hx
def uB (x : Int) : Bool := decide (0 ≤ x) && decide (x < 18446744073709551616)
def iB (x : Int) : Bool := decide (-9223372036854775808 ≤ x) && decide (x < 9223372036854775808)
theorem uB_i {x : Int} (h : uB x = true) : U x := by simpa [uB, U] using h
theorem iB_i {x : Int} (h : iB x = true) : I x := by simpa [iB, I] using h
abbrev C1 (k : IntKind) : CodL (Int × Unit) := cCons (cI k) cNil
abbrev C2 (k : IntKind) : CodL (Int × Int × Unit) := cCons (cI k) (cCons (cI k) cNil)
abbrev C3 (k : IntKind) : CodL (Int × Int × Int × Unit) := cCons (cI k) (cCons (cI k) (cCons (cI k) cNil))
def aAdd (x y c : Int) : Option (Int × Int) := cb (uB x && uB y && (decide (0 ≤ c) && decide (c ≤ 1))) (some ((x + y + c) % 18446744073709551616, (x + y + c) / 18446744073709551616)) none
def p_bits_Add64 (L : Nat) (x y c : Int) : Option (Int × Int) := match L with
  | 0 => aAdd x y c
  | _ + 1 => aAdd x y c
theorem p_bits_Add64_i (L : Nat) (x y c : Int) : p_bits_Add64 L x y c = aAdd x y c := by cases L <;> rfl
noncomputable def s_bits_Add64 (L : Nat) : Ev.Spec := specP (C3 .u64) (fun x => p_bits_Add64 L x.1 x.2.1 x.2.2.1) fun r => [.int .u64 r.1, .int .u64 r.2]
theorem s_bits_Add64_run (L : Nat) (x y c : Int) : (s_bits_Add64 L).run [.int .u64 x, .int .u64 y, .int .u64 c] = (p_bits_Add64 L x y c).map fun r => [.int .u64 r.1, .int .u64 r.2] := specP_run (C3 .u64) (fun x => p_bits_Add64 L x.1 x.2.1 x.2.2.1) (fun r => [.int .u64 r.1, .int .u64 r.2]) (x, y, c, ())
theorem ok_bits_Add64 (L : Nat) (hL : L ≤ 4611686018427387904) : SpecOk Try.prog 88 (s_bits_Add64 L) := specP_weak sAdd_ok fun x r h => by
  rw [p_bits_Add64_i] at h
  unfold aAdd at h
  rcases cb_e h with ⟨hc, h⟩ | ⟨_, h⟩
  · simp only [Bool.and_eq_true, decide_eq_true_eq] at hc
    cases h
    exact sAdd_run x.1 x.2.1 x.2.2.1 (uB_i hc.1.1) (uB_i hc.1.2) hc.2.1 hc.2.2
  · cases h
end Go.Proofs.Ytnopgienncmcmaa.P
end
section
set_option linter.unusedVariables false
set_option linter.unusedSimpArgs false
set_option maxRecDepth 100000
namespace Go.Proofs.Ytnopgienncmcmaa.P
open Go.Ev Go.IntKind Go.Proofs.Ytnopgienncmcmaa Go.Proofs.Ytnopgienncmcmaa.Ty Go.Proofs.Ytnopgienncmcmaa.E
def p_num_Wide_Neg (L : Nat) (a0_0 : Int) (a0_1 : Int) : Option (Int × Int) := bnd (p_bits_Add64 L (bitsI .xor .u64 18446744073709551615 a0_1) 1 0) fun r1 => bnd (p_bits_Add64 L (bitsI .xor .u64 18446744073709551615 (u64.wrap a0_0)) 0 r1.2) fun r2 => some ((i64.wrap r2.1), r1.1)
attribute [local go_sem] Ev.putR_s Ev.putR_0 Ev.thenO_s Ev.thenO_0 Ev.seqR_n Ev.seqR_e Ev.seqR_r Ev.seqR_0 Ev.blkR_e Ev.blkR_n Ev.blkR_r Ev.blkR_0 Ev.normR_s Ev.normR_0 Ev.outR_r Ev.outR_n Ev.outR_0 Ev.retS_s Ev.retS_0 Ev.pureO_s Ev.pureO_0 Ev.topR_0 Ev.topR_t Ev.topR_t0 Ev.oneL_0 Ev.oneL_s Ev.topR_d Ev.topR_nils Ev.topR_agg Ev.topR_rs Ev.evOp_move Ev.evOp_assign Ev.evOp_pick Ev.evOp_alloc Ev.evOp_box Ev.evOp_build Ev.evOp_buildSlice Ev.evOp_load Ev.evOp_store Ev.evOp_makeMap Ev.evOp_lookup Ev.evOp_mapUpdate Ev.evOp_insert Ev.evOp_nilCheck Ev.evOp_binOp Ev.evOp_unOp Ev.evOp_convert Ev.evOp_makeFunc Ev.evOp_makeSlice Ev.evOp_slice Ev.evOp_fieldAddr Ev.evOp_field Ev.evOp_indexAddr Ev.evOp_index Ev.evOp_extract Ev.evOp_call Ev.evOp_append Ev.evOp_clear Ev.evOp_len Ev.evLen_d Ev.evLen_rs Ev.evLen_nils Ev.evLen_nila Ev.evLen_mp Ev.evOp_min Ev.evOp_max Ev.condR_b Ev.condR_t Ev.evOps_nil Ev.evOps_plain Ev.evOps_guard Ev.runG_eq Ev.skipG_eq Ev.condL_tt Ev.condL_ff Ev.condL_tf Ev.condL_ft Ev.condL_u Ev.condC_t Ev.condC_f Ev.evC_skip Ev.evC_ret Ev.evC_exit Ev.evC_label Ev.evC_region Ev.evC_draw Ev.evC_seq Ev.evC_cond Ev.evC_block Ev.evC_loop Ev.fin_d Ev.fin_nila Ev.fin_nils Ev.fin_agg_ Ev.fin_rs Ev.finS_s Ev.mapO_fin Ev.upd_upd Ev.argv_d Ev.argv_nila Ev.argv_nils Ev.argv_agg Ev.argv_rs Ev.argv_p Ev.fk_low Ev.appendTo_nils Ev.appendTo_nila Ev.appendTo_rs Ev.consV_d Ev.consV_agg Ev.consV_p Ev.consV_rs Ev.consV_nila Ev.consV_nils Ev.consV_fn Ev.consV_und Ev.consV_jk Ev.consV_grown Ev.topR_grown Ev.len_grown Ev.consV_nilm Ev.consV_mp Ev.sameK_i Ev.sameK_s Ev.mget_0 Ev.mget_hit Ev.mget_miss Ev.mput_0 Ev.mput_hit Ev.mput_miss Ev.apartAll Ev.apartL Ev.apartV Ev.freeAll Ev.sel Ev.keyOfV Ev.evLookup Ev.evPut Ev.hintOk Ev.keyOk Ev.consP Ev.lookV Ev.guardV Ev.dstAt Ev.evPure Ev.evStore Ev.evBin Ev.evBinO Ev.evNil Ev.isNilC Ev.evUn Ev.evConv Ev.evSlice Ev.optI Ev.foldI Ev.capsOk Ev.noTup Ev.nth Ev.setN Ev.killAt Ev.pad Ev.V.get Ev.V.put Ev.putD Ev.newBlk Ev.upd Ev.keq Ev.empty Ev.evCall Ev.V.args Ev.argP Ev.callOf Ev.evNilP Ev.isNilP Ev.look Ev.V.view.views Ev.V.view Ev.V.toD Ev.V.toD.V.toDs Ev.V.pure.pures Ev.V.pure Ev.D.flat.flats Ev.D.flat Ev.mkAgg Ev.allD Ev.aggParts Ev.setParts Ev.setElems Ev.getPath Ev.setPath Ev.subL Ev.eqD Ev.eqD.eqDs Ev.and2 Ev.strCut Ev.evalT Ev.constT Ev.evArgs Ev.mask Ev.maskOf Ev.tableOf Ev.compT Ev.resV Ev.retV Ev.mapO Ev.mx_u64 Ev.mx_u32 Ev.mx_u16 Ev.mx_u8 Ev.sg_i64 Ev.sg_i32 Ev.sg_i16 Ev.sg_i8 Ev.sg_u64 Ev.sg_u32 Ev.sg_u16 Ev.sg_u8 Ev.mapE_i Ev.mapV_nil Ev.hT_nilm Ev.mget_map Ev.mput_map Ev.mapV_put Ev.mapV_half Ev.hT_nila Ev.eO_nila Ev.pL_nila Ev.evLen_gl Ev.r_nila Ev.frzO_n Ev.frzO_e Ev.frzO_r Ev.frzO_0 Ev.mb_z Ev.mb_0 Ev.mb_s Ev.frzL_t Ev.frzL_f Ev.frzL_0 Ev.frzT_nils Ev.frzT_rs Ev.frzT_p Ev.frzK_i Ev.keyIn_i Ev.rI_nil Ev.rI_cons Ev.rI_row Ev.rI_app Ev.r_d Ev.r_nils Ev.r_agg Ev.r_rs Ev.r_gl Ev.vw_row Ev.vw_app Ev.appO_s Ev.frzT_gl Ev.allD_gl Ev.killAt_i Ev.tkOne_i Ev.hT_agg Ev.hT_vagg Ev.hT_int Ev.hT_bool Ev.hT_str Ev.hT_sl Ev.hT_ptr Ev.hT_np Ev.hT_p Ev.hT_rs Ev.hT_mp Ev.hT_nils Ev.hT_fn Ev.hT_jk Ev.hT_gl Ev.eO_sl Ev.eO_nils Ev.eO_rs Ev.eT_sl Ev.eT_rs Ev.pL_str Ev.pL_sl Ev.pL_rs Ev.pL_nils Ev.pL_min Ev.pL_max Ev.len_glB Ev.noTup_gl Ev.rowV_len Ev.rowV_nil Ev.rowV_cons Ev.rowV_append Ev.rowV_set Ev.rowV_replicate Ev.nth_row Ev.row_take Ev.row_drop Ev.toDs_row Ev.fin_row Ev.map_row Ev.map_take_ Ev.map_drop_ Ev.Bk_i Ev.GlB_0 Ev.GlB_mk Ev.gl_nil Ev.gl_cons Ev.gl_snoc Ev.gl_setN Ev.appendTo_gl Ev.consV_gl Ev.elems_gl Ev.fin_gl Ev.view_gl Ev.argv_gl Ev.topR_gl Ev.sp_z Ev.sp_0 Ev.sp_s Ev.km_z Ev.km_0 Ev.km_s Ev.beq_toList Ev.nc0 Ev.bq_t Ev.bq_f Ev.bodyN Ev.le_maxRow Int.cast_ofNat_Int IntWalk.i64_in IntWalk.u64_in IntWalk.u8_in beq_self_eq_true Bool.true_beq Bool.false_beq Bool.and_true Bool.true_and Bool.false_and Bool.and_false Bool.and_self Bool.not_true Bool.not_false Bool.not_eq_true cond_true cond_false if_true if_false and_true true_and and_self decide_true decide_false Bool.or_true Bool.true_or Bool.or_false Bool.false_or List.isEmpty List.isEmpty_nil List.size_toArray List.map List.length_map List.length_cons List.length_nil Option.map Option.bind Option.getD Option.isSome List.replicate Bool.false_eq_true implies_true false_implies forall_const Array.toList Array.isEmpty List.append List.nil_append List.cons_append List.drop_zero List.take_length List.take_succ_cons List.take_zero List.take_nil List.getElem?_map List.getElem?_cons_zero List.getElem?_cons_succ List.getElem?_nil List.append_nil eq_self Int.toNat_natCast List.length_append Nat.zero_add Nat.add_zero List.length_replicate Nat.sub_zero Option.map_some Option.map_none Int.le_refl Nat.le_refl Int.natCast_nonneg List.map_append
attribute [local go_sem_proc] Nat.reduceAdd Nat.reduceSub Nat.reduceMul Nat.reduceEqDiff Nat.reduceBEq Nat.reduceLT Nat.reduceLeDiff Nat.reducePow Int.reduceToNat Int.reduceLT Int.reduceLE Int.reduceGT Int.reduceGE Int.reduceEq Int.reduceNeg Int.reduceAdd Int.reduceSub Int.reduceMul reduceCtorEq
attribute [local go_sem_proc ↓] reduceIte
noncomputable def G_num_Wide_Neg (L : Nat) : Specs := [(88, s_bits_Add64 L)]
noncomputable def T_num_Wide_Neg : Table := tableOf [(86, en86)]
theorem Go_num_Wide_Neg (L : Nat) (hL : L ≤ 4611686018427387904) : ∀ g s, Ev.look (G_num_Wide_Neg L) g = some s → SpecOk Try.prog g s := (specs_cons (ok_bits_Add64 L hL) specs_nil)
theorem To_num_Wide_Neg (L : Nat) : TableOk Try.prog ((G_num_Wide_Neg L).map (·.1)) T_num_Wide_Neg := (table_cons Try.func86 (by kernel_rfl) (by kernel_rfl) table_nil)
theorem lk_num_Wide_Neg_88 (L : Nat) : Ev.look (G_num_Wide_Neg L) 88 = some (s_bits_Add64 L) := nr rfl
attribute [local go_sem] Ty.tk2 Ty.ik2 Ty.ek2 Ty.zv2 Ty.by2 Ty.so2 Ty.tk98 Ty.ik98 Ty.ek98 Ty.zv98 Ty.by98 Ty.so98 Ty.tk124 Ty.ct124 Ty.ek124 Ty.zv124 Ty.by124 Ty.so124 Ty.k124_e E.mk86_1000000 lk_num_Wide_Neg_88 s_bits_Add64_run loopN loops Try.f86
theorem e_num_Wide_Neg (L : Nat) (hL : L ≤ 4611686018427387904) (a0_0 : Int) (a0_1 : Int) (res : Int × Int) (h : p_num_Wide_Neg L a0_0 a0_1 = some res) : evTop Try.prog (G_num_Wide_Neg L) T_num_Wide_Neg L 1 86 [.agg 124 [.int .i64 a0_0, .int .u64 a0_1]] = some [.agg 124 [.int .i64 res.1, .int .u64 res.2]] := by
  revert h
  unfold p_num_Wide_Neg evTop
  simp only [List.map]
  rw [evF_s (fn := Try.f86) (msk := en86.ms) (hT := by rfl) (hb := by rfl)]
  refine bnd_i fun r1 c1 => ?_
  refine bnd_i fun r2 c2 => ?_
  rintro ⟨⟩
  simp only [go_sem, *]
noncomputable def s_num_Wide_Neg (L : Nat) : Ev.Spec := specP (cCons k124 cNil) (fun x => p_num_Wide_Neg L x.1.1 x.1.2.1) (fun r => [.agg 124 [.int .i64 r.1, .int .u64 r.2]])
theorem s_num_Wide_Neg_run (L : Nat) (a0_0 : Int) (a0_1 : Int) : (s_num_Wide_Neg L).run [.agg 124 [.int .i64 a0_0, .int .u64 a0_1]] = (p_num_Wide_Neg L a0_0 a0_1).map fun r => [.agg 124 [.int .i64 r.1, .int .u64 r.2]] := specP_run (cCons k124 cNil) (fun x => p_num_Wide_Neg L x.1.1 x.1.2.1) (fun r => [.agg 124 [.int .i64 r.1, .int .u64 r.2]]) ((a0_0, a0_1, ()), ())
theorem ok_num_Wide_Neg (L : Nat) (hL : L ≤ 4611686018427387904) : SpecOk Try.prog 86 (s_num_Wide_Neg L) := specP_ok mixed (Go_num_Wide_Neg L hL) (To_num_Wide_Neg L) fun x r h => ⟨L, 1, e_num_Wide_Neg L hL x.1.1 x.1.2.1 r h⟩
end Go.Proofs.Ytnopgienncmcmaa.P
end
section
set_option linter.unusedVariables false
set_option linter.unusedSimpArgs false
set_option maxRecDepth 100000
namespace Go.Proofs.Ytnopgienncmcmaa.P
open Go.Ev Go.IntKind Go.Proofs.Ytnopgienncmcmaa Go.Proofs.Ytnopgienncmcmaa.Ty Go.Proofs.Ytnopgienncmcmaa.E
def p_num_Product (L : Nat) (a0 : Int) (a1 : Int) : Option (Int × Int) := bnd (p_num_size L a0) fun r1 => bnd (p_num_size L a1) fun r2 => bnd (p_bits_Mul64 L r1 r2) fun r3 => cb ((decide (a0 < 0)) == (decide (a1 < 0))) (some ((i64.wrap r3.1), r3.2)) (bnd (p_num_Wide_Neg L (i64.wrap r3.1) r3.2) fun r4 => some (r4.1, r4.2))
attribute [local go_sem] Ev.putR_s Ev.putR_0 Ev.thenO_s Ev.thenO_0 Ev.seqR_n Ev.seqR_e Ev.seqR_r Ev.seqR_0 Ev.blkR_e Ev.blkR_n Ev.blkR_r Ev.blkR_0 Ev.normR_s Ev.normR_0 Ev.outR_r Ev.outR_n Ev.outR_0 Ev.retS_s Ev.retS_0 Ev.pureO_s Ev.pureO_0 Ev.topR_0 Ev.topR_t Ev.topR_t0 Ev.oneL_0 Ev.oneL_s Ev.topR_d Ev.topR_nils Ev.topR_agg Ev.topR_rs Ev.evOp_move Ev.evOp_assign Ev.evOp_pick Ev.evOp_alloc Ev.evOp_box Ev.evOp_build Ev.evOp_buildSlice Ev.evOp_load Ev.evOp_store Ev.evOp_makeMap Ev.evOp_lookup Ev.evOp_mapUpdate Ev.evOp_insert Ev.evOp_nilCheck Ev.evOp_binOp Ev.evOp_unOp Ev.evOp_convert Ev.evOp_makeFunc Ev.evOp_makeSlice Ev.evOp_slice Ev.evOp_fieldAddr Ev.evOp_field Ev.evOp_indexAddr Ev.evOp_index Ev.evOp_extract Ev.evOp_call Ev.evOp_append Ev.evOp_clear Ev.evOp_len Ev.evLen_d Ev.evLen_rs Ev.evLen_nils Ev.evLen_nila Ev.evLen_mp Ev.evOp_min Ev.evOp_max Ev.condR_b Ev.condR_t Ev.evOps_nil Ev.evOps_plain Ev.evOps_guard Ev.runG_eq Ev.skipG_eq Ev.condL_tt Ev.condL_ff Ev.condL_tf Ev.condL_ft Ev.condL_u Ev.condC_t Ev.condC_f Ev.evC_skip Ev.evC_ret Ev.evC_exit Ev.evC_label Ev.evC_region Ev.evC_draw Ev.evC_seq Ev.evC_cond Ev.evC_block Ev.evC_loop Ev.fin_d Ev.fin_nila Ev.fin_nils Ev.fin_agg_ Ev.fin_rs Ev.finS_s Ev.mapO_fin Ev.upd_upd Ev.argv_d Ev.argv_nila Ev.argv_nils Ev.argv_agg Ev.argv_rs Ev.argv_p Ev.fk_low Ev.appendTo_nils Ev.appendTo_nila Ev.appendTo_rs Ev.consV_d Ev.consV_agg Ev.consV_p Ev.consV_rs Ev.consV_nila Ev.consV_nils Ev.consV_fn Ev.consV_und Ev.consV_jk Ev.consV_grown Ev.topR_grown Ev.len_grown Ev.consV_nilm Ev.consV_mp Ev.sameK_i Ev.sameK_s Ev.mget_0 Ev.mget_hit Ev.mget_miss Ev.mput_0 Ev.mput_hit Ev.mput_miss Ev.apartAll Ev.apartL Ev.apartV Ev.freeAll Ev.sel Ev.keyOfV Ev.evLookup Ev.evPut Ev.hintOk Ev.keyOk Ev.consP Ev.lookV Ev.guardV Ev.dstAt Ev.evPure Ev.evStore Ev.evBin Ev.evBinO Ev.evNil Ev.isNilC Ev.evUn Ev.evConv Ev.evSlice Ev.optI Ev.foldI Ev.capsOk Ev.noTup Ev.nth Ev.setN Ev.killAt Ev.pad Ev.V.get Ev.V.put Ev.putD Ev.newBlk Ev.upd Ev.keq Ev.empty Ev.evCall Ev.V.args Ev.argP Ev.callOf Ev.evNilP Ev.isNilP Ev.look Ev.V.view.views Ev.V.view Ev.V.toD Ev.V.toD.V.toDs Ev.V.pure.pures Ev.V.pure Ev.D.flat.flats Ev.D.flat Ev.mkAgg Ev.allD Ev.aggParts Ev.setParts Ev.setElems Ev.getPath Ev.setPath Ev.subL Ev.eqD Ev.eqD.eqDs Ev.and2 Ev.strCut Ev.evalT Ev.constT Ev.evArgs Ev.mask Ev.maskOf Ev.tableOf Ev.compT Ev.resV Ev.retV Ev.mapO Ev.mx_u64 Ev.mx_u32 Ev.mx_u16 Ev.mx_u8 Ev.sg_i64 Ev.sg_i32 Ev.sg_i16 Ev.sg_i8 Ev.sg_u64 Ev.sg_u32 Ev.sg_u16 Ev.sg_u8 Ev.mapE_i Ev.mapV_nil Ev.hT_nilm Ev.mget_map Ev.mput_map Ev.mapV_put Ev.mapV_half Ev.hT_nila Ev.eO_nila Ev.pL_nila Ev.evLen_gl Ev.r_nila Ev.frzO_n Ev.frzO_e Ev.frzO_r Ev.frzO_0 Ev.mb_z Ev.mb_0 Ev.mb_s Ev.frzL_t Ev.frzL_f Ev.frzL_0 Ev.frzT_nils Ev.frzT_rs Ev.frzT_p Ev.frzK_i Ev.keyIn_i Ev.rI_nil Ev.rI_cons Ev.rI_row Ev.rI_app Ev.r_d Ev.r_nils Ev.r_agg Ev.r_rs Ev.r_gl Ev.vw_row Ev.vw_app Ev.appO_s Ev.frzT_gl Ev.allD_gl Ev.killAt_i Ev.tkOne_i Ev.hT_agg Ev.hT_vagg Ev.hT_int Ev.hT_bool Ev.hT_str Ev.hT_sl Ev.hT_ptr Ev.hT_np Ev.hT_p Ev.hT_rs Ev.hT_mp Ev.hT_nils Ev.hT_fn Ev.hT_jk Ev.hT_gl Ev.eO_sl Ev.eO_nils Ev.eO_rs Ev.eT_sl Ev.eT_rs Ev.pL_str Ev.pL_sl Ev.pL_rs Ev.pL_nils Ev.pL_min Ev.pL_max Ev.len_glB Ev.noTup_gl Ev.rowV_len Ev.rowV_nil Ev.rowV_cons Ev.rowV_append Ev.rowV_set Ev.rowV_replicate Ev.nth_row Ev.row_take Ev.row_drop Ev.toDs_row Ev.fin_row Ev.map_row Ev.map_take_ Ev.map_drop_ Ev.Bk_i Ev.GlB_0 Ev.GlB_mk Ev.gl_nil Ev.gl_cons Ev.gl_snoc Ev.gl_setN Ev.appendTo_gl Ev.consV_gl Ev.elems_gl Ev.fin_gl Ev.view_gl Ev.argv_gl Ev.topR_gl Ev.sp_z Ev.sp_0 Ev.sp_s Ev.km_z Ev.km_0 Ev.km_s Ev.beq_toList Ev.nc0 Ev.bq_t Ev.bq_f Ev.bodyN Ev.le_maxRow Int.cast_ofNat_Int IntWalk.i64_in IntWalk.u64_in IntWalk.u8_in beq_self_eq_true Bool.true_beq Bool.false_beq Bool.and_true Bool.true_and Bool.false_and Bool.and_false Bool.and_self Bool.not_true Bool.not_false Bool.not_eq_true cond_true cond_false if_true if_false and_true true_and and_self decide_true decide_false Bool.or_true Bool.true_or Bool.or_false Bool.false_or List.isEmpty List.isEmpty_nil List.size_toArray List.map List.length_map List.length_cons List.length_nil Option.map Option.bind Option.getD Option.isSome List.replicate Bool.false_eq_true implies_true false_implies forall_const Array.toList Array.isEmpty List.append List.nil_append List.cons_append List.drop_zero List.take_length List.take_succ_cons List.take_zero List.take_nil List.getElem?_map List.getElem?_cons_zero List.getElem?_cons_succ List.getElem?_nil List.append_nil eq_self Int.toNat_natCast List.length_append Nat.zero_add Nat.add_zero List.length_replicate Nat.sub_zero Option.map_some Option.map_none Int.le_refl Nat.le_refl Int.natCast_nonneg List.map_append
attribute [local go_sem_proc] Nat.reduceAdd Nat.reduceSub Nat.reduceMul Nat.reduceEqDiff Nat.reduceBEq Nat.reduceLT Nat.reduceLeDiff Nat.reducePow Int.reduceToNat Int.reduceLT Int.reduceLE Int.reduceGT Int.reduceGE Int.reduceEq Int.reduceNeg Int.reduceAdd Int.reduceSub Int.reduceMul reduceCtorEq
attribute [local go_sem_proc ↓] reduceIte
noncomputable def G_num_Product (L : Nat) : Specs := [(77, s_num_size L), (85, s_bits_Mul64 L), (86, s_num_Wide_Neg L)]
noncomputable def T_num_Product : Table := tableOf [(78, en78)]
theorem Go_num_Product (L : Nat) (hL : L ≤ 4611686018427387904) : ∀ g s, Ev.look (G_num_Product L) g = some s → SpecOk Try.prog g s := (specs_cons (ok_num_size L hL) (specs_cons (ok_bits_Mul64 L hL) (specs_cons (ok_num_Wide_Neg L hL) specs_nil)))
theorem To_num_Product (L : Nat) : TableOk Try.prog ((G_num_Product L).map (·.1)) T_num_Product := (table_cons Try.func78 (by kernel_rfl) (by kernel_rfl) table_nil)
theorem lk_num_Product_77 (L : Nat) : Ev.look (G_num_Product L) 77 = some (s_num_size L) := nr rfl
theorem lk_num_Product_85 (L : Nat) : Ev.look (G_num_Product L) 85 = some (s_bits_Mul64 L) := nr rfl
theorem lk_num_Product_86 (L : Nat) : Ev.look (G_num_Product L) 86 = some (s_num_Wide_Neg L) := nr rfl
attribute [local go_sem] Ty.tk2 Ty.ik2 Ty.ek2 Ty.zv2 Ty.by2 Ty.so2 Ty.tk4 Ty.ub4 Ty.ek4 Ty.zv4 Ty.by4 Ty.so4 Ty.tk98 Ty.ik98 Ty.ek98 Ty.zv98 Ty.by98 Ty.so98 Ty.tk124 Ty.ct124 Ty.ek124 Ty.zv124 Ty.by124 Ty.so124 Ty.k124_e E.mk78_1000000 lk_num_Product_77 lk_num_Product_85 lk_num_Product_86 s_num_size_run s_bits_Mul64_run s_num_Wide_Neg_run loopN loops Try.f78
theorem e_num_Product (L : Nat) (hL : L ≤ 4611686018427387904) (a0 : Int) (a1 : Int) (res : Int × Int) (h : p_num_Product L a0 a1 = some res) : evTop Try.prog (G_num_Product L) T_num_Product L 1 78 [.int .i64 a0, .int .i64 a1] = some [.agg 124 [.int .i64 res.1, .int .u64 res.2]] := by
  revert h
  unfold p_num_Product evTop
  simp only [List.map]
  rw [evF_s (fn := Try.f78) (msk := en78.ms) (hT := by rfl) (hb := by rfl)]
  refine bnd_i fun r1 c1 => ?_
  refine bnd_i fun r2 c2 => ?_
  refine bnd_i fun r3 c3 => ?_
  refine cb_i (fun c4 => ?_) (fun c4 => ?_)
  · rintro ⟨⟩
    simp only [go_sem, *]
  · refine bnd_i fun r4 c5 => ?_
    rintro ⟨⟩
    simp only [go_sem, *]
noncomputable def s_num_Product (L : Nat) : Ev.Spec := specP (cCons (cI .i64) (cCons (cI .i64) cNil)) (fun x => p_num_Product L x.1 x.2.1) (fun r => [.agg 124 [.int .i64 r.1, .int .u64 r.2]])
theorem s_num_Product_run (L : Nat) (a0 : Int) (a1 : Int) : (s_num_Product L).run [.int .i64 a0, .int .i64 a1] = (p_num_Product L a0 a1).map fun r => [.agg 124 [.int .i64 r.1, .int .u64 r.2]] := specP_run (cCons (cI .i64) (cCons (cI .i64) cNil)) (fun x => p_num_Product L x.1 x.2.1) (fun r => [.agg 124 [.int .i64 r.1, .int .u64 r.2]]) (a0, a1, ())
theorem ok_num_Product (L : Nat) (hL : L ≤ 4611686018427387904) : SpecOk Try.prog 78 (s_num_Product L) := specP_ok mixed (Go_num_Product L hL) (To_num_Product L) fun x r h => ⟨L, 1, e_num_Product L hL x.1 x.2.1 r h⟩
end Go.Proofs.Ytnopgienncmcmaa.P
end
section
set_option linter.unusedVariables false
set_option linter.unusedSimpArgs false
set_option maxRecDepth 100000
namespace Go.Proofs.Ytnopgienncmcmaa.P
open Go.Ev Go.IntKind Go.Proofs.Ytnopgienncmcmaa Go.Proofs.Ytnopgienncmcmaa.Ty Go.Proofs.Ytnopgienncmcmaa.E
def p_num_Mul (L : Nat) (a0 : Int) (a1 : Int) : Option (Int × Bool) := bnd (p_num_Product L a0 a1) fun r1 => cb (decide (r1.1 = (shrI .i64 (i64.wrap r1.2) 63))) (some ((i64.wrap r1.2), true)) (some (0, false))
attribute [local go_sem] Ev.putR_s Ev.putR_0 Ev.thenO_s Ev.thenO_0 Ev.seqR_n Ev.seqR_e Ev.seqR_r Ev.seqR_0 Ev.blkR_e Ev.blkR_n Ev.blkR_r Ev.blkR_0 Ev.normR_s Ev.normR_0 Ev.outR_r Ev.outR_n Ev.outR_0 Ev.retS_s Ev.retS_0 Ev.pureO_s Ev.pureO_0 Ev.topR_0 Ev.topR_t Ev.topR_t0 Ev.oneL_0 Ev.oneL_s Ev.topR_d Ev.topR_nils Ev.topR_agg Ev.topR_rs Ev.evOp_move Ev.evOp_assign Ev.evOp_pick Ev.evOp_alloc Ev.evOp_box Ev.evOp_build Ev.evOp_buildSlice Ev.evOp_load Ev.evOp_store Ev.evOp_makeMap Ev.evOp_lookup Ev.evOp_mapUpdate Ev.evOp_insert Ev.evOp_nilCheck Ev.evOp_binOp Ev.evOp_unOp Ev.evOp_convert Ev.evOp_makeFunc Ev.evOp_makeSlice Ev.evOp_slice Ev.evOp_fieldAddr Ev.evOp_field Ev.evOp_indexAddr Ev.evOp_index Ev.evOp_extract Ev.evOp_call Ev.evOp_append Ev.evOp_clear Ev.evOp_len Ev.evLen_d Ev.evLen_rs Ev.evLen_nils Ev.evLen_nila Ev.evLen_mp Ev.evOp_min Ev.evOp_max Ev.condR_b Ev.condR_t Ev.evOps_nil Ev.evOps_plain Ev.evOps_guard Ev.runG_eq Ev.skipG_eq Ev.condL_tt Ev.condL_ff Ev.condL_tf Ev.condL_ft Ev.condL_u Ev.condC_t Ev.condC_f Ev.evC_skip Ev.evC_ret Ev.evC_exit Ev.evC_label Ev.evC_region Ev.evC_draw Ev.evC_seq Ev.evC_cond Ev.evC_block Ev.evC_loop Ev.fin_d Ev.fin_nila Ev.fin_nils Ev.fin_agg_ Ev.fin_rs Ev.finS_s Ev.mapO_fin Ev.upd_upd Ev.argv_d Ev.argv_nila Ev.argv_nils Ev.argv_agg Ev.argv_rs Ev.argv_p Ev.fk_low Ev.appendTo_nils Ev.appendTo_nila Ev.appendTo_rs Ev.consV_d Ev.consV_agg Ev.consV_p Ev.consV_rs Ev.consV_nila Ev.consV_nils Ev.consV_fn Ev.consV_und Ev.consV_jk Ev.consV_grown Ev.topR_grown Ev.len_grown Ev.consV_nilm Ev.consV_mp Ev.sameK_i Ev.sameK_s Ev.mget_0 Ev.mget_hit Ev.mget_miss Ev.mput_0 Ev.mput_hit Ev.mput_miss Ev.apartAll Ev.apartL Ev.apartV Ev.freeAll Ev.sel Ev.keyOfV Ev.evLookup Ev.evPut Ev.hintOk Ev.keyOk Ev.consP Ev.lookV Ev.guardV Ev.dstAt Ev.evPure Ev.evStore Ev.evBin Ev.evBinO Ev.evNil Ev.isNilC Ev.evUn Ev.evConv Ev.evSlice Ev.optI Ev.foldI Ev.capsOk Ev.noTup Ev.nth Ev.setN Ev.killAt Ev.pad Ev.V.get Ev.V.put Ev.putD Ev.newBlk Ev.upd Ev.keq Ev.empty Ev.evCall Ev.V.args Ev.argP Ev.callOf Ev.evNilP Ev.isNilP Ev.look Ev.V.view.views Ev.V.view Ev.V.toD Ev.V.toD.V.toDs Ev.V.pure.pures Ev.V.pure Ev.D.flat.flats Ev.D.flat Ev.mkAgg Ev.allD Ev.aggParts Ev.setParts Ev.setElems Ev.getPath Ev.setPath Ev.subL Ev.eqD Ev.eqD.eqDs Ev.and2 Ev.strCut Ev.evalT Ev.constT Ev.evArgs Ev.mask Ev.maskOf Ev.tableOf Ev.compT Ev.resV Ev.retV Ev.mapO Ev.mx_u64 Ev.mx_u32 Ev.mx_u16 Ev.mx_u8 Ev.sg_i64 Ev.sg_i32 Ev.sg_i16 Ev.sg_i8 Ev.sg_u64 Ev.sg_u32 Ev.sg_u16 Ev.sg_u8 Ev.mapE_i Ev.mapV_nil Ev.hT_nilm Ev.mget_map Ev.mput_map Ev.mapV_put Ev.mapV_half Ev.hT_nila Ev.eO_nila Ev.pL_nila Ev.evLen_gl Ev.r_nila Ev.frzO_n Ev.frzO_e Ev.frzO_r Ev.frzO_0 Ev.mb_z Ev.mb_0 Ev.mb_s Ev.frzL_t Ev.frzL_f Ev.frzL_0 Ev.frzT_nils Ev.frzT_rs Ev.frzT_p Ev.frzK_i Ev.keyIn_i Ev.rI_nil Ev.rI_cons Ev.rI_row Ev.rI_app Ev.r_d Ev.r_nils Ev.r_agg Ev.r_rs Ev.r_gl Ev.vw_row Ev.vw_app Ev.appO_s Ev.frzT_gl Ev.allD_gl Ev.killAt_i Ev.tkOne_i Ev.hT_agg Ev.hT_vagg Ev.hT_int Ev.hT_bool Ev.hT_str Ev.hT_sl Ev.hT_ptr Ev.hT_np Ev.hT_p Ev.hT_rs Ev.hT_mp Ev.hT_nils Ev.hT_fn Ev.hT_jk Ev.hT_gl Ev.eO_sl Ev.eO_nils Ev.eO_rs Ev.eT_sl Ev.eT_rs Ev.pL_str Ev.pL_sl Ev.pL_rs Ev.pL_nils Ev.pL_min Ev.pL_max Ev.len_glB Ev.noTup_gl Ev.rowV_len Ev.rowV_nil Ev.rowV_cons Ev.rowV_append Ev.rowV_set Ev.rowV_replicate Ev.nth_row Ev.row_take Ev.row_drop Ev.toDs_row Ev.fin_row Ev.map_row Ev.map_take_ Ev.map_drop_ Ev.Bk_i Ev.GlB_0 Ev.GlB_mk Ev.gl_nil Ev.gl_cons Ev.gl_snoc Ev.gl_setN Ev.appendTo_gl Ev.consV_gl Ev.elems_gl Ev.fin_gl Ev.view_gl Ev.argv_gl Ev.topR_gl Ev.sp_z Ev.sp_0 Ev.sp_s Ev.km_z Ev.km_0 Ev.km_s Ev.beq_toList Ev.nc0 Ev.bq_t Ev.bq_f Ev.bodyN Ev.le_maxRow Int.cast_ofNat_Int IntWalk.i64_in IntWalk.u64_in IntWalk.u8_in beq_self_eq_true Bool.true_beq Bool.false_beq Bool.and_true Bool.true_and Bool.false_and Bool.and_false Bool.and_self Bool.not_true Bool.not_false Bool.not_eq_true cond_true cond_false if_true if_false and_true true_and and_self decide_true decide_false Bool.or_true Bool.true_or Bool.or_false Bool.false_or List.isEmpty List.isEmpty_nil List.size_toArray List.map List.length_map List.length_cons List.length_nil Option.map Option.bind Option.getD Option.isSome List.replicate Bool.false_eq_true implies_true false_implies forall_const Array.toList Array.isEmpty List.append List.nil_append List.cons_append List.drop_zero List.take_length List.take_succ_cons List.take_zero List.take_nil List.getElem?_map List.getElem?_cons_zero List.getElem?_cons_succ List.getElem?_nil List.append_nil eq_self Int.toNat_natCast List.length_append Nat.zero_add Nat.add_zero List.length_replicate Nat.sub_zero Option.map_some Option.map_none Int.le_refl Nat.le_refl Int.natCast_nonneg List.map_append
attribute [local go_sem_proc] Nat.reduceAdd Nat.reduceSub Nat.reduceMul Nat.reduceEqDiff Nat.reduceBEq Nat.reduceLT Nat.reduceLeDiff Nat.reducePow Int.reduceToNat Int.reduceLT Int.reduceLE Int.reduceGT Int.reduceGE Int.reduceEq Int.reduceNeg Int.reduceAdd Int.reduceSub Int.reduceMul reduceCtorEq
attribute [local go_sem_proc ↓] reduceIte
noncomputable def G_num_Mul (L : Nat) : Specs := [(78, s_num_Product L)]
noncomputable def T_num_Mul : Table := tableOf [(59, en59)]
theorem Go_num_Mul (L : Nat) (hL : L ≤ 4611686018427387904) : ∀ g s, Ev.look (G_num_Mul L) g = some s → SpecOk Try.prog g s := (specs_cons (ok_num_Product L hL) specs_nil)
theorem To_num_Mul (L : Nat) : TableOk Try.prog ((G_num_Mul L).map (·.1)) T_num_Mul := (table_cons Try.func59 (by kernel_rfl) (by kernel_rfl) table_nil)
theorem lk_num_Mul_78 (L : Nat) : Ev.look (G_num_Mul L) 78 = some (s_num_Product L) := nr rfl
attribute [local go_sem] Ty.tk2 Ty.ik2 Ty.ek2 Ty.zv2 Ty.by2 Ty.so2 Ty.tk4 Ty.ub4 Ty.ek4 Ty.zv4 Ty.by4 Ty.so4 Ty.tk78 Ty.ik78 Ty.ek78 Ty.zv78 Ty.by78 Ty.so78 Ty.tk98 Ty.ik98 Ty.ek98 Ty.zv98 Ty.by98 Ty.so98 Ty.tk124 Ty.ct124 Ty.ek124 Ty.zv124 Ty.by124 Ty.so124 Ty.k124_e E.mk59_1000000 lk_num_Mul_78 s_num_Product_run loopN loops Try.f59
theorem e_num_Mul (L : Nat) (hL : L ≤ 4611686018427387904) (a0 : Int) (a1 : Int) (res : Int × Bool) (h : p_num_Mul L a0 a1 = some res) : evTop Try.prog (G_num_Mul L) T_num_Mul L 1 59 [.int .i64 a0, .int .i64 a1] = some [.int .i64 res.1, .bool res.2] := by
  revert h
  unfold p_num_Mul evTop
  simp only [List.map]
  rw [evF_s (fn := Try.f59) (msk := en59.ms) (hT := by rfl) (hb := by rfl)]
  refine bnd_i fun r1 c1 => ?_
  refine cb_i (fun c2 => ?_) (fun c2 => ?_)
  · rintro ⟨⟩
    simp only [go_sem, *]
  · rintro ⟨⟩
    simp only [go_sem, *]
noncomputable def s_num_Mul (L : Nat) : Ev.Spec := specP (cCons (cI .i64) (cCons (cI .i64) cNil)) (fun x => p_num_Mul L x.1 x.2.1) (fun r => [.int .i64 r.1, .bool r.2])
theorem s_num_Mul_run (L : Nat) (a0 : Int) (a1 : Int) : (s_num_Mul L).run [.int .i64 a0, .int .i64 a1] = (p_num_Mul L a0 a1).map fun r => [.int .i64 r.1, .bool r.2] := specP_run (cCons (cI .i64) (cCons (cI .i64) cNil)) (fun x => p_num_Mul L x.1 x.2.1) (fun r => [.int .i64 r.1, .bool r.2]) (a0, a1, ())
theorem ok_num_Mul (L : Nat) (hL : L ≤ 4611686018427387904) : SpecOk Try.prog 59 (s_num_Mul L) := specP_ok mixed (Go_num_Mul L hL) (To_num_Mul L) fun x r h => ⟨L, 1, e_num_Mul L hL x.1 x.2.1 r h⟩
def sk_num_Mul : Ev.Spec := specK (c := (cCons (cI .i64) (cCons (cI .i64) cNil))) (dCons (dI .i64) (dCons (dI .i64) dNil)) (fun x => p_num_Mul 1000 x.1 x.2.1) (fun r => [.int .i64 r.1, .bool r.2])
theorem okk_num_Mul : SpecOk Try.prog 59 sk_num_Mul := specK_ok (dCons (dI .i64) (dCons (dI .i64) dNil)) mixed (Go_num_Mul 1000 (by decide)) (To_num_Mul 1000) fun x r h => ⟨1000, 1, e_num_Mul 1000 (by decide) x.1 x.2.1 r h⟩
end Go.Proofs.Ytnopgienncmcmaa.P
end
section
set_option linter.unusedVariables false
set_option linter.unusedSimpArgs false
set_option maxRecDepth 100000
namespace Go.Proofs.Ytnopgienncmcmaa.E
open Go.Ev
noncomputable def en76 : Entry := ⟨Try.f76, [(1000000, mb 27 0 [2])]⟩
theorem mk76_1000000 (vs : List V) : mask (maskOf en76.ms 1000000) vs = km 27 0 [2] vs := mask_mb _ _ _ _
end Go.Proofs.Ytnopgienncmcmaa.E
end
