/- The evaluator's soundness: maps. -/
import Derived.Test.YtmhjmjodchbhlaaREvJ
set_option linter.unusedVariables false
set_option linter.unusedSimpArgs false
set_option linter.unusedSectionVars false
namespace Go.Ev
open Go.RowKit

section
variable {P : Program} {B0 : Nat} {S : Nat → Prop} {σ : Sig} {st : Store} {w : World} {env : List V} {a : Act}

theorem mapT_spec {t k e : TypeId} (h : mapT P t = some (k, e)) : P.underlying t = some (.map k e) := by
  unfold mapT at h
  split at h
  · rename_i hu; cases h; exact hu
  · cases h
/-- The model's value of a key. -/
def keyV : D → Value
  | .int k n => .int k n
  | .bool b => .bool b
  | .str s => .string s
  | _ => .tuple #[]
theorem keyOk_desc {kt : TypeId} {q : D} (h : keyOk (ek P kt) q = true) : ∃ d, P.underlying kt = some d ∧
    ((∃ k, d = .int k) ∧ (∃ k n, q = .int k n) ∨ d = .bool ∧ (∃ b, q = .bool b) ∨ d = .string ∧ ∃ s, q = .str s) := by
  unfold ek at h
  split at h
  · rename_i k hu; cases q <;> simp [keyOk] at h; exact ⟨_, hu, .inl ⟨⟨_, rfl⟩, _, _, rfl⟩⟩
  · rename_i hu; cases q <;> simp [keyOk] at h; exact ⟨_, hu, .inr (.inl ⟨rfl, _, rfl⟩)⟩
  · rename_i hu; cases q <;> simp [keyOk] at h; exact ⟨_, hu, .inr (.inr ⟨rfl, _, rfl⟩)⟩
  · simp [keyOk] at h
  · split at h <;> simp [keyOk] at h
  · simp [keyOk] at h
theorem keyV_rel {q : D} {val : Value} (hq : (∃ k n, q = .int k n) ∨ (∃ b, q = .bool b) ∨ ∃ s, q = .str s) (h : RelV P S σ st w (.d q) val) : val = keyV q := by
  rcases hq with ⟨k, n, rfl⟩ | ⟨b, rfl⟩ | ⟨s, rfl⟩
  · exact relV_int h
  · exact relV_bool h
  · exact relV_str h
theorem sameK_sound {d : TypeDesc} {x q : D} {b : Bool} {val : Value}
    (hx : (∃ k, d = .int k) ∧ (∃ k n, x = .int k n) ∨ d = .bool ∧ (∃ b, x = .bool b) ∨ d = .string ∧ ∃ s, x = .str s)
    (h : sameK x q = some b) (hv : RelN P S σ st w (.d q) val) : Instr.sameNow d (keyV x) val = some b ∧ (b = true → val = keyV x) := by
  rcases hx with ⟨⟨k, rfl⟩, k', n, rfl⟩ | ⟨rfl, c, rfl⟩ | ⟨rfl, s, rfl⟩
  · cases q <;> simp only [sameK] at h <;> try (cases h; done)
    rename_i k2 m
    split at h
    · rename_i hk
      subst hk
      cases h
      have := relV_int (P := P) (S := S) (σ := σ) (st := st) (w := w) (val := val) hv
      subst this
      refine ⟨by simp only [keyV, Instr.sameNow, if_true]; congr 1, fun hb => ?_⟩
      simp at hb; subst hb; rfl
    · cases h
  · cases q <;> simp only [sameK] at h <;> try (cases h; done)
    cases h
    have := relV_bool (P := P) (S := S) (σ := σ) (st := st) (w := w) (val := val) hv
    subst this
    refine ⟨by simp only [keyV, Instr.sameNow]; congr 1, fun hb => ?_⟩
    simp at hb; subst hb; rfl
  · cases q <;> simp only [sameK] at h <;> try (cases h; done)
    rename_i s'
    cases h
    have := relV_str (P := P) (S := S) (σ := σ) (st := st) (w := w) (val := val) hv
    subst this
    refine ⟨?_, fun hb => ?_⟩
    · simp only [keyV, Instr.sameNow]
      congr 1
      rw [Bool.eq_iff_iff, MapKept.bytes_beq]
      simp
    · simp at hb; subst hb; rfl
theorem mget_find {d : TypeDesc} {x : D}
    (hx : (∃ k, d = .int k) ∧ (∃ k n, x = .int k n) ∨ d = .bool ∧ (∃ b, x = .bool b) ∨ d = .string ∧ ∃ s, x = .str s) :
    ∀ {vs : List V} {es : List MapEntry} {r : Option V} (i : Nat), MapRel P S σ st w vs es → mget vs x = some r →
    (r = none ∧ Instr.findNow d (keyV x) es i = some none) ∨ ∃ v j e, r = some v ∧ Instr.findNow d (keyV x) es i = some (some (i + j, e.val)) ∧ es[j]? = some e ∧ e.key = keyV x ∧ RelN P S σ st w v e.val
  | [], _, r, i, h, hg => by cases h; cases hg; exact .inl ⟨rfl, rfl⟩
  | [_], _, _, _, h, _ => h.elim
  | k :: v :: vs, _, r, i, h, hg => by
    obtain ⟨e, es, rfl, h1, h2, h3⟩ := h
    simp only [mget] at hg
    split at hg
    · rename_i q
      split at hg
      · rename_i hs
        cases hg
        obtain ⟨g1, g2⟩ := sameK_sound hx hs h1
        exact .inr ⟨v, 0, e, rfl, by simp [Instr.findNow, g1], rfl, g2 rfl, h2⟩
      · rename_i hs
        obtain ⟨g1, _⟩ := sameK_sound hx hs h1
        rcases mget_find hx (i + 1) h3 hg with ⟨rfl, g⟩ | ⟨v', j, e', rfl, f1, f2, f3, f4⟩
        · exact .inl ⟨rfl, by simp [Instr.findNow, g1, g]⟩
        · exact .inr ⟨v', j + 1, e', rfl, by simp only [Instr.findNow, g1, f1]; congr 3; omega, by simpa using f2, f3, f4⟩
      · cases hg
    · cases hg
theorem mput_find {d : TypeDesc} {x : D} {u : V} {val : Value}
    (hx : (∃ k, d = .int k) ∧ (∃ k n, x = .int k n) ∨ d = .bool ∧ (∃ b, x = .bool b) ∨ d = .string ∧ ∃ s, x = .str s)
    (hu : RelN P S σ st w u val) (hk : RelN P S σ st w (.d x) (keyV x)) :
    ∀ {vs vs' : List V} {es : List MapEntry} (i : Nat), MapRel P S σ st w vs es → mput vs x u = some vs' →
    (Instr.findNow d (keyV x) es i = some none ∧ ∀ e0 : MapEntry, e0.key = keyV x → e0.val = val → MapRel P S σ st w vs' (es ++ [e0])) ∨
    ∃ j e, Instr.findNow d (keyV x) es i = some (some (i + j, e.val)) ∧ es[j]? = some e ∧ e.key = keyV x ∧ ∀ e0 : MapEntry, e0.key = keyV x → e0.val = val → MapRel P S σ st w vs' (es.set j e0)
  | [], vs', _, i, h, hg => by
    cases h; cases hg
    exact .inl ⟨rfl, fun e0 h1 h2 => ⟨e0, [], rfl, by rw [h1]; exact hk, by rw [h2]; exact hu, rfl⟩⟩
  | [_], _, _, _, h, _ => h.elim
  | k :: v :: vs, vs', _, i, h, hg => by
    obtain ⟨e, es, rfl, h1, h2, h3⟩ := h
    simp only [mput] at hg
    split at hg
    · rename_i q
      split at hg
      · rename_i hs
        cases hg
        obtain ⟨g1, g2⟩ := sameK_sound hx hs h1
        refine .inr ⟨0, e, by simp [Instr.findNow, g1], rfl, g2 rfl, fun e0 f1 f2 => ⟨e0, es, rfl, ?_, by rw [f2]; exact hu, h3⟩⟩
        rw [f1, ← g2 rfl]; exact h1
      · rename_i hs
        obtain ⟨g1, _⟩ := sameK_sound hx hs h1
        cases hp : mput vs x u with
        | none => rw [hp] at hg; cases hg
        | some l =>
          rw [hp] at hg
          cases hg
          rcases mput_find hx hu hk (i + 1) h3 hp with ⟨f1, f2⟩ | ⟨j, e', f1, f2, f3, f4⟩
          · exact .inl ⟨by simp [Instr.findNow, g1, f1], fun e0 q1 q2 => ⟨e, _, rfl, h1, h2, f2 e0 q1 q2⟩⟩
          · exact .inr ⟨j + 1, e', by simp only [Instr.findNow, g1, f1]; congr 3; omega, by simpa using f2, f3, fun e0 q1 q2 => ⟨e, _, rfl, h1, h2, f4 e0 q1 q2⟩⟩
      · cases hg
    · cases hg

theorem relV_mp {k : Key} {ver : Nat} {val : Value} (h : RelV P S σ st w (.mp k ver) val) : ∃ r, val = .map (some r) ∧ ver ≤ (st k).ver ∧ (ver = (st k).ver → (st k).live = true → szOf P (st k).e = 0 ∧ ∃ cap, σ k = some (r, cap)) := by
  obtain ⟨r, h1, h2⟩ := relV_one h rfl (by simp) (by simp)
  simp at h1
  exact ⟨r, h1, h2⟩
/-- A map as it lies. -/
theorem map_at {k : Key} {r cap : Nat} (hI : Inv P B0 S σ st w) (hl : (st k).live = true) (h0 : szOf P (st k).e = 0) (hσ : σ k = some (r, cap)) :
    ∃ es clock, w.heap[r]? = some (.map es clock) ∧ MapRel P S σ st w (st k).vs es.toList := by
  obtain ⟨_, _, _, o, h1, h2⟩ := (hI.own k hl).some r cap hσ
  rcases h2 with ⟨hp, _⟩ | ⟨_, es, clock, rfl, h3⟩
  · omega
  · exact ⟨es, clock, h1, h3⟩

theorem makeMap_ok {lv : Nat} {dst : Option Tmp} {t : TypeId} {r : Option Operand} {v : V} {st' : Store} (hI : Inv P B0 S σ st w) (hrel : EnvRel P S σ st w env a.tmps)
    (h : evStore P (evalT P env) lv dst st (.makeMap t r) = some (v, st')) : Ran P B0 S σ st w ((Instr.makeMap t (r.map a.eval)).run P w) v st' := by
  simp only [evStore] at h
  split at h
  · rename_i d q hq
    split at h
    · rename_i hc
      cases h
      obtain ⟨kt, et⟩ := q
      have hu := mapT_spec hq
      obtain ⟨h1, h2, h3⟩ := newMap_ok (k := (lv, d)) hI hc.1
      refine ⟨.map (some w.heap.size), _, S, _, ?_, h1, h2, h3, RelC.to_v ⟨w.heap.size, rfl, by simp [newBlk, upd_same], fun _ _ => ⟨by simpa [newBlk, upd_same] using hc.1, 0, by simp [updS_same]⟩⟩ rfl⟩
      cases r with
      | none => simp [Instr.makeMap]
      | some o =>
        have ho := hc.2
        simp only [Option.map_some, hintOk] at ho
        have hr := evalT_rel hrel 0 o
        split at ho
        · simp_all
        · rename_i k n hv
          rw [Option.some.inj hv] at hr
          simp [Instr.makeMap, run_underlying hu, relV_int hr, asInt, asIntOf]
        · cases ho
    · cases h
  · cases h

theorem zeroW_sound {t : TypeId} {v : V} (h : zeroW P t = some v) : ∃ i z, P.info? t = some i ∧ i.zero = some z ∧ RelN P S σ st w v z ∧ hasT P t v = true := by
  unfold zeroW at h
  split at h
  · rename_i zv z h1 h2
    split at h
    · rename_i hf
      cases h
      obtain ⟨i, z', hi, hz', hok⟩ := zeroV_sound (S := S) (σ := σ) (st := st) (w := w) h2
      have hzz : zv = z' := by simpa [hi, hz'] using h1.symm
      subst hzz
      refine ⟨i, zv, hi, hz', ?_, hok.2.1⟩
      cases hv : v.isAgg
      · rw [hv] at hf
        refine .inr (.inr ⟨hv, ?_⟩)
        have : zv.cells.toList = [zv] := by cases zv <;> first | rfl | (simp [isAggV] at hf)
        rw [← this]; exact hok.1
      · rw [hv] at hf
        cases zv <;> simp [isAggV] at hf
        rename_i cs
        exact .inr (.inl ⟨hv, cs.toList, by simp, hok.1⟩)
    · cases h
  · cases h
theorem lookup_ok {t : TypeId} {x i : Operand} {ok : Bool} {v : V} {st' : Store} (hI : Inv P B0 S σ st w) (hrel : EnvRel P S σ st w env a.tmps)
    (h : evLookup P st t ok (evalT P env 0 x) (evalT P env 0 i) = some (v, st')) : Ran P B0 S σ st w ((Instr.lookup t (a.eval x) (a.eval i) ok).run P w) v st' := by
  have hx := evalT_rel hrel 0 x
  have hi := evalT_rel hrel 0 i
  unfold evLookup at h
  split at h
  · rename_i kt et hmt
    have hu := mapT_spec hmt
    split at h
    · rename_i k ver hv1
      rw [hv1] at hx
      split at h
      · rename_i q hv2
        rw [hv2] at hi
        split at h
        · rename_i hc
          obtain ⟨hver, hl, hko⟩ := hc
          split at h
          · rename_i r hr
            split at h
            · rename_i z hz
              cases h
              obtain ⟨b, hb, _, hfr⟩ := relV_mp hx
              obtain ⟨h0, cap, hσ⟩ := hfr hver.symm hl
              obtain ⟨es, clock, e1, e2⟩ := map_at hI hl h0 hσ
              obtain ⟨d, hd, hdx⟩ := keyOk_desc hko
              have hq : (∃ k n, q = D.int k n) ∨ (∃ b, q = .bool b) ∨ ∃ s, q = .str s := by
                rcases hdx with ⟨_, h⟩ | ⟨_, h⟩ | ⟨_, h⟩
                · exact .inl h
                · exact .inr (.inl h)
                · exact .inr (.inr h)
              have hkv := keyV_rel hq hi
              obtain ⟨ti, zv, hti, hzv, hzr, hzt⟩ := zeroW_sound (S := S) (σ := σ) (st := st) (w := w) hz
              have hchk : (Instr.checkKey es.isEmpty 10000 kt (keyV q)).run P w = .ok () w := by
                unfold Instr.checkKey
                simp only [Sem.run_bind, run_underlying hd, Result.andThen_ok]
                rcases hdx with ⟨⟨_, rfl⟩, _, _, rfl⟩ | ⟨rfl, _, rfl⟩ | ⟨rfl, _, rfl⟩ <;> rfl
              refine Ran.same hI ?_
              rcases mget_find hdx 0 e2 hr with ⟨rfl, g⟩ | ⟨u, j, e, rfl, g1, g2, g3, g4⟩
              · refine ⟨if ok then .tuple #[zv, .bool false] else zv, ?_, ?_⟩
                · simp only [Instr.lookup, Sem.run_bind, run_underlying hu, Result.andThen_ok, hb, MapKept.run_getObj_map e1, Sem.run_pure, hkv, hchk, MapKept.run_findKey hd g, run_zeroValue hti hzv]
                · cases ok
                  · exact hzr.v (hasT_tup hzt)
                  · exact ⟨[zv, .bool false], rfl, _, _, rfl, hzr, _, _, rfl, .inr (.inr ⟨rfl, rfl⟩), rfl⟩
              · rw [Nat.zero_add] at g1
                refine ⟨if ok then .tuple #[e.val, .bool true] else e.val, ?_, ?_⟩
                · simp only [Instr.lookup, Sem.run_bind, run_underlying hu, Result.andThen_ok, hb, MapKept.run_getObj_map e1, Sem.run_pure, hkv, hchk, MapKept.run_findKey hd g1]
                · cases ok
                  · refine g4.v ?_
                    rintro l rfl
                    rcases g4 with h | ⟨h, _⟩ | ⟨_, h⟩
                    · cases h
                    · simp [V.isAgg] at h
                    · exact h.elim
                  · exact ⟨[e.val, .bool true], rfl, _, _, rfl, g4, _, _, rfl, .inr (.inr ⟨rfl, rfl⟩), rfl⟩
            · cases h
          · cases h
        · cases h
      · cases h
    · cases h
  · cases h

theorem arr_modify {es : Array MapEntry} {j : Nat} {e e0 : MapEntry} {f : MapEntry → MapEntry} (h : es.toList[j]? = some e) (hf : f e = e0) : (es.modify j f).toList = es.toList.set j e0 := by
  have hlt : j < es.toList.length := (List.getElem?_eq_some_iff.1 h).1
  apply List.ext_getElem?
  intro i
  rw [Array.getElem?_toList, Array.getElem?_modify, List.getElem?_set, Array.getElem?_toList]
  by_cases hij : j = i
  · subst hij
    rw [Array.getElem?_toList] at h
    simp [h, hf, hlt]
    simpa using hlt
  · simp [hij]
theorem put_ok {t : TypeId} {m k x : Operand} {v : V} {st' : Store} (hI : Inv P B0 S σ st w) (hrel : EnvRel P S σ st w env a.tmps)
    (h : evPut P st t (evalT P env 0 m) (evalT P env 0 k) (fun e => evalT P env e x) = some (v, st')) :
    OpOk P B0 S σ st w ((do Instr.mapUpdate t (a.eval m) (a.eval k) (a.eval x); pure .skip : Sem Next).run P w) v st' := by
  have hm := evalT_rel hrel 0 m
  have hk := evalT_rel hrel 0 k
  unfold evPut at h
  split at h
  · rename_i kt et hmt
    have hu := mapT_spec hmt
    have hx := evalT_rel hrel et x
    split at h
    · rename_i key ver hv1
      rw [hv1] at hm
      split at h
      · rename_i q hv2
        rw [hv2] at hk
        split at h
        · rename_i hc
          obtain ⟨hver, hl, hko, ht⟩ := hc
          split at h
          · rename_i vs' hp
            cases h
            obtain ⟨b, hb, _, hfr⟩ := relV_mp hm
            obtain ⟨h0, cap, hσ⟩ := hfr hver.symm hl
            obtain ⟨es, clock, e1, e2⟩ := map_at hI hl h0 hσ
            obtain ⟨d, hd, hdx⟩ := keyOk_desc hko
            have hq : (∃ k n, q = D.int k n) ∨ (∃ b, q = .bool b) ∨ ∃ s, q = .str s := by
              rcases hdx with ⟨_, h⟩ | ⟨_, h⟩ | ⟨_, h⟩
              · exact .inl h
              · exact .inr (.inl h)
              · exact .inr (.inr h)
            have hkv := keyV_rel hq hk
            have hkn : RelN P S σ st w (.d q) (keyV q) := by rw [← hkv]; exact hk
            have hchk : (Instr.checkKey false 10000 kt (keyV q)).run P w = .ok () w := by
              unfold Instr.checkKey
              simp only [Sem.run_bind, run_underlying hd, Result.andThen_ok]
              rcases hdx with ⟨⟨_, rfl⟩, _, _, rfl⟩ | ⟨rfl, _, rfl⟩ | ⟨rfl, _, rfl⟩ <;> rfl
            have hstay : (Instr.keyThatStays (keyV q) (keyV q)).run P w = .ok (keyV q) w := by
              have : Instr.sameBits 10000 (keyV q) (keyV q) = true := by
                rcases hq with ⟨k, n, rfl⟩ | ⟨b, rfl⟩ | ⟨s, rfl⟩
                · simp [keyV, Instr.sameBits]
                · simp [keyV, Instr.sameBits]
                · simp [keyV, Instr.sameBits, MapKept.bytes_beq]
              simp [Instr.keyThatStays, this]
            rcases mput_find hdx (hx.n (hasT_tup ht)) hkn 0 e2 hp with ⟨g1, g2⟩ | ⟨j, e, g1, g2, g3, g4⟩
            · obtain ⟨r1, r2, r3⟩ := setMap_ok (es' := es.push ⟨keyV q, a.eval x, clock⟩) (clock' := clock + 1) hI h0 hl hσ (by rw [Array.toList_push]; exact g2 _ rfl rfl)
              refine ⟨undef, .skip, _, S, σ, ?_, .inr ⟨rfl, rfl⟩, r1, r2, r3, ⟨[], rfl, rfl⟩⟩
              simp only [Instr.mapUpdate, Sem.run_bind, run_underlying hu, Result.andThen_ok, hb, MapKept.run_getObj_map e1, hkv, hchk, MapKept.run_findKey hd g1, MapKept.run_setObj_map _ e1, Sem.run_pure]
            · rw [Nat.zero_add] at g1
              have hj : es[j]? = some e := by rw [← Array.getElem?_toList]; exact g2
              obtain ⟨r1, r2, r3⟩ := setMap_ok (es' := es.modify j fun e => { e with key := keyV q, val := a.eval x }) (clock' := clock) hI h0 hl hσ (by rw [arr_modify g2 rfl]; exact g4 _ rfl rfl)
              refine ⟨undef, .skip, _, S, σ, ?_, .inr ⟨rfl, rfl⟩, r1, r2, r3, ⟨[], rfl, rfl⟩⟩
              simp only [Instr.mapUpdate, Sem.run_bind, run_underlying hu, Result.andThen_ok, hb, MapKept.run_getObj_map e1, hkv, hchk, MapKept.run_findKey hd g1, hj, Option.map_some, Option.getD_some, g3, hstay, MapKept.run_setObj_map _ e1, Sem.run_pure]
          · cases h
        · cases h
      · cases h
    · cases h
  · cases h
end
end Go.Ev
