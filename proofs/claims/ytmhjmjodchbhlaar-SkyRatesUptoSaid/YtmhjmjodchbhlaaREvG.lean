/- The evaluator's soundness, sixth part: every operation that asks nothing of memory, as the model runs it. -/
import Derived.Test.YtmhjmjodchbhlaaREvF
set_option linter.unusedVariables false
set_option linter.unusedSimpArgs false
set_option linter.unusedSectionVars false
namespace Go.Ev
open Go.RowKit

section
variable {P : Program} {S : Nat → Prop} {σ : Sig} {st : Store} {w : World} {env : List V} {a : Act}

theorem run_indexAt_ok {t e : TypeId} (hu : P.underlying t = some (.slice e)) (hpos : 0 < szOf P e) (A : Addr) (len cap : Nat) (k : IntKind) (i : Int) (h0 : 0 ≤ i) (h1 : i < len) (w : World) :
    (Instr.indexAt t (.slice (some A) len cap) (.int k i)).run P w = .ok (.pointer (some (A.add (i.toNat * szOf P e)))) w := by
  simp [Instr.indexAt, run_underlying hu, asIntOf, h0, h1, run_sizeOf_pos hpos]
theorem run_indexAt_arr {t e : TypeId} {m : Nat} (hu : P.underlying t = some (.array m e)) (hpos : 0 < szOf P e) (A : Addr) (k : IntKind) (i : Int) (h0 : 0 ≤ i) (h1 : i < m) (w : World) :
    (Instr.indexAt t (.pointer (some A)) (.int k i)).run P w = .ok (.pointer (some (A.add (i.toNat * szOf P e)))) w := by
  simp [Instr.indexAt, run_underlying hu, asIntOf, h0, h1, run_sizeOf_pos hpos, Instr.sureAddr]

theorem relV_p {k : Key} {ver i : Nat} {path : List (TypeId × Nat)} {val : Value} (h : RelV P S σ st w (.p k ver i path) val) : ∃ A, val = .pointer (some A) ∧ ver ≤ (st k).ver ∧ (ver = (st k).ver → (st k).live = true →
      0 < szOf P (st k).e ∧ ∃ b cap off, σ k = some (b, cap) ∧ pathOff P path = some off ∧ A = ⟨b, i * szOf P (st k).e + off, none⟩) := by
  obtain ⟨A, h1, h2⟩ := relV_one h rfl (by simp) (by simp)
  simp at h1
  exact ⟨A, h1, h2⟩
theorem relV_dp {x : D} {val : Value} (h : RelV P S σ st w (.d (.ptr x)) val) : ∃ (b o : Nat) (xs : List Value), val = .pointer (some ⟨b, o, none⟩) ∧ S b ∧ cellsAt w b o xs ∧ Fl P S w x xs := by
  obtain ⟨b, o, xs, h1, h2⟩ := relV_one h rfl (by simp) (by simp)
  simp at h1
  exact ⟨b, o, xs, h1, h2⟩
theorem relV_aggD {t : TypeId} {ds : List D} {val : Value} (h : RelV P S σ st w (.d (.agg t ds)) val) : ∃ css : List (List Value), val = .agg css.flatten.toArray ∧ comps P t = some (css.map List.length) ∧ Fl.fls P S w ds css := by
  rcases h with h | ⟨_, cs, rfl, css, rfl, h2, h3⟩ | ⟨h, _⟩
  · cases h
  · exact ⟨css, rfl, h2, h3⟩
  · cases h
theorem relV_agg {t : TypeId} {vs : List V} {val : Value} (h : RelV P S σ st w (.agg t vs) val) : ∃ css : List (List Value), val = .agg css.flatten.toArray ∧ comps P t = some (css.map List.length) ∧ RelC.rels P S σ st w vs css := by
  rcases h with h | ⟨_, cs, rfl, css, rfl, h2, h3⟩ | ⟨h, _⟩
  · cases h
  · exact ⟨css, rfl, h2, h3⟩
  · cases h

theorem fieldAddr_sound {t : TypeId} {f n : Nat} {x : Operand} {v : V} (hrel : EnvRel P S σ st w env a.tmps) (h : evPure P (evalT P env) n (.fieldAddr t x f) = some v) :
    ∃ val, (Instr.fieldAt t (a.eval x) f).run P w = .ok val w ∧ RelV P S σ st w v val := by
  have hx := evalT_rel hrel 0 x
  simp only [evPure] at h
  split at h
  · rename_i m k ver i path hk hv
    rw [hv] at hx
    split at h
    · rename_i hf
      cases h
      obtain ⟨A, hA, hver, hfr⟩ := relV_p hx
      rw [hA]
      obtain ⟨l, hl, hlm, hrun⟩ := run_fieldAt (A := A) hk hf w
      refine ⟨_, hrun, RelC.to_v ⟨_, rfl, hver, fun h1 h2 => ?_⟩ rfl⟩
      obtain ⟨gp, b, cap, off, g1, g2, rfl⟩ := hfr h1 h2
      exact ⟨gp, b, cap, off + (l.take f).sum, g1, pathOff_append g2 hl (by omega), by rw [add_none]; congr 1; omega⟩
    · cases h
  · rename_i m t' ds hk hv
    rw [hv] at hx
    split at h
    · rename_i ht
      subst ht
      split at h
      · rename_i y hy
        cases h
        obtain ⟨b, o, xs, hA, hb, hat, css, rfl, hc, hf⟩ := relV_dp hx
        rw [hA]
        rw [nth_eq] at hy
        obtain ⟨c, hcf, hfl⟩ := fls_at hf hy
        have hlt : f < m := by
          obtain ⟨⟨l, hl, hlm⟩, _⟩ := tk_agg hk
          rw [hc] at hl; cases hl
          have := (List.getElem?_eq_some_iff.1 hcf).1
          simpa [← hlm] using this
        obtain ⟨l, hl, hlm, hrun⟩ := run_fieldAt (A := ⟨b, o, none⟩) hk hlt w
        rw [hc] at hl; cases hl
        obtain ⟨g1, g2⟩ := flatten_at hcf
        refine ⟨_, hrun, RelC.to_v ⟨b, o + ((css.map List.length).take f).sum, c, by rw [add_none], hb, hat.part g1 g2, hfl⟩ rfl⟩
      · cases h
    · cases h
  · cases h

theorem indexAddr_sound {t : TypeId} {n : Nat} {x i : Operand} {v : V} (hrel : EnvRel P S σ st w env a.tmps) (h : evPure P (evalT P env) n (.indexAddr t x i) = some v) :
    ∃ val, (Instr.indexAt t (a.eval x) (a.eval i)).run P w = .ok val w ∧ RelV P S σ st w v val := by
  have hx := evalT_rel hrel t x
  have hi := evalT_rel hrel 0 i
  simp only [evPure] at h
  split at h
  · rename_i e e' ds k q hk hv1 hv2
    rw [hv1] at hx; rw [hv2] at hi
    rw [relV_int hi]
    split at h
    · rename_i hc
      obtain ⟨rfl, h0, h1⟩ := hc
      obtain ⟨hu, _, hpos, _⟩ := tk_sl hk
      obtain ⟨A, cap, hA, hds⟩ := relV_sl hx
      rw [hA]
      simp only [Option.map_eq_some_iff] at h
      obtain ⟨y, hy, rfl⟩ := h
      rcases hds with rfl | ⟨b, o, css, rfl, hb, hcc, hcs, hat, hf⟩
      · simp at hy
      · obtain ⟨c, hcf, hfl⟩ := fls_at hf hy
        obtain ⟨g1, g2⟩ := flatten_at hcf
        rw [take_sum_const hcs (by have := (List.getElem?_eq_some_iff.1 hcf).1; omega)] at g1 g2
        refine ⟨_, run_indexAt_ok hu hpos ⟨b, o, none⟩ _ _ _ q h0 h1 w, RelC.to_v ⟨b, o + q.toNat * szOf P e, c, by rw [add_none], hb, hat.part g1 g2, hfl⟩ rfl⟩
    · cases h
  · rename_i e er k ver off len full kk q hk hv1 hv2
    rw [hv1] at hx; rw [hv2] at hi
    rw [relV_int hi]
    split at h
    · rename_i hc
      obtain ⟨rfl, h0, h1⟩ := hc
      cases h
      obtain ⟨hu, _, hpos, _⟩ := tk_sl hk
      obtain ⟨A, c, hA, hlc, hsome, hver, hfr⟩ := relV_rs hx
      obtain ⟨A', rfl⟩ := hsome (by omega)
      rw [hA]
      refine ⟨_, run_indexAt_ok hu hpos A' _ _ _ q h0 h1 w, RelC.to_v ⟨_, rfl, hver, fun v1 v2 => ?_⟩ rfl⟩
      obtain ⟨g0, gp, g1, g2⟩ := hfr v1 v2
      cases hs : σ k with
      | none => have := (g1 hs).2; omega
      | some bc =>
        obtain ⟨b, cap⟩ := bc
        obtain ⟨q1, q2, _⟩ := g2 b cap hs
        rcases q1 with q1 | q1
        · omega
        · cases q1
          exact ⟨by rw [g0]; exact gp, b, cap, 0, rfl, rfl, by rw [add_none, g0, Nat.add_mul]; rfl⟩
    · cases h
  · rename_i m k ver j path kk q hk hv1 hv2
    rw [hv1] at hx; rw [hv2] at hi
    rw [relV_int hi]
    split at h
    · rename_i hc
      obtain ⟨h0, h1⟩ := hc
      cases h
      obtain ⟨A, hA, hver, hfr⟩ := relV_p hx
      rw [hA]
      obtain ⟨⟨l, hl, hlm⟩, ⟨fs, hu, hr⟩ | ⟨m', e, hu, _⟩⟩ := tk_agg hk
      · cases hr
      · obtain ⟨rfl, hpos, h2, _⟩ := comps_array hu hl
        simp at hlm
        subst hlm
        refine ⟨_, run_indexAt_arr hu hpos A _ q h0 h1 w, RelC.to_v ⟨_, rfl, hver, fun v1 v2 => ?_⟩ rfl⟩
        obtain ⟨gp, b, cap, off, g1, g2, rfl⟩ := hfr v1 v2
        refine ⟨gp, b, cap, off + ((List.replicate m' (szOf P e)).take q.toNat).sum, g1, pathOff_append g2 hl (by simp; omega), ?_⟩
        rw [add_none, List.take_replicate, sum_replicate', Nat.min_eq_left (by omega)]
        congr 1; omega
    · cases h
  · cases h

theorem capsOk_cons {v : V} {vs : List V} (h : capsOk (v :: vs) = true) : capsOk vs = true ∧ v.isAgg = false ∧ v ≠ .und ∧ ∀ us, v ≠ .tup us := by
  cases v with
  | p k ver i path => exact ⟨by simpa [capsOk] using h, rfl, by simp, by simp⟩
  | d x =>
    cases x with
    | ptr y => exact ⟨by simpa [capsOk] using h, rfl, by simp, by simp⟩
    | _ => simp [capsOk] at h
  | _ => simp [capsOk] at h
theorem capsOk_rel : ∀ {vs : List V} {vals : List Value}, capsOk vs = true → (∀ x ∈ vs.zip vals, RelV P S σ st w x.1 x.2) → vs.length = vals.length → RelC.rels P S σ st w vs (vals.map fun v => [v])
  | [], [], _, _, _ => rfl
  | [], _ :: _, _, _, h => by simp at h
  | v :: vs, [], _, _, h => by simp at h
  | v :: vs, u :: us, hc, hr, hl => by
    obtain ⟨c1, c2, c3, c4⟩ := capsOk_cons hc
    refine ⟨[u], us.map (fun v => [v]), rfl, ?_, capsOk_rel c1 (fun x hx => hr x (by simp [hx])) (by simpa using hl)⟩
    exact relV_one (hr (v, u) (by simp)) c2 c3 c4

/-- Least and greatest. -/
theorem foldI_min {k : IntKind} : ∀ {vs : List V} {vals : List Value} {p : Int} {v : V}, foldI minI k vs (some p) = some v → (∀ x ∈ vs.zip vals, RelV P S σ st w x.1 x.2) → vs.length = vals.length →
    ∃ r, (vals.foldlM Builtin.min2 (.int k p) : Sem Value).run P w = .ok r w ∧ RelV P S σ st w v r
  | [], [], p, v, h, _, _ => by simp only [foldI, Option.some.injEq] at h; subst h; exact ⟨_, rfl, int_rel _ _⟩
  | [], _ :: _, _, _, _, _, h => by simp at h
  | _ :: _, [], _, _, _, _, h => by simp at h
  | x :: vs, u :: us, p, v, h, hr, hl => by
    cases x with
    | d y =>
      cases y with
      | int k' q =>
        simp only [foldI] at h
        split at h
        · rename_i hk
          subst hk
          have := relV_int (hr (.d (.int k' q), u) (by simp)); subst this
          obtain ⟨r, h1, h2⟩ := foldI_min (vals := us) h (fun x hx => hr x (by simp [hx])) (by simpa using hl)
          refine ⟨r, ?_, h2⟩
          simp only [List.foldlM_cons, Sem.run_bind, Builtin.min2, Sem.run_pure, Result.andThen_ok]
          exact h1
        · cases h
      | _ => simp [foldI] at h
    | _ => simp [foldI] at h
theorem foldI_max {k : IntKind} : ∀ {vs : List V} {vals : List Value} {p : Int} {v : V}, foldI maxI k vs (some p) = some v → (∀ x ∈ vs.zip vals, RelV P S σ st w x.1 x.2) → vs.length = vals.length →
    ∃ r, (vals.foldlM Builtin.max2 (.int k p) : Sem Value).run P w = .ok r w ∧ RelV P S σ st w v r
  | [], [], p, v, h, _, _ => by simp only [foldI, Option.some.injEq] at h; subst h; exact ⟨_, rfl, int_rel _ _⟩
  | [], _ :: _, _, _, _, _, h => by simp at h
  | _ :: _, [], _, _, _, _, h => by simp at h
  | x :: vs, u :: us, p, v, h, hr, hl => by
    cases x with
    | d y =>
      cases y with
      | int k' q =>
        simp only [foldI] at h
        split at h
        · rename_i hk
          subst hk
          have := relV_int (hr (.d (.int k' q), u) (by simp)); subst this
          obtain ⟨r, h1, h2⟩ := foldI_max (vals := us) h (fun x hx => hr x (by simp [hx])) (by simpa using hl)
          refine ⟨r, ?_, h2⟩
          simp only [List.foldlM_cons, Sem.run_bind, Builtin.max2, Sem.run_pure, Result.andThen_ok]
          exact h1
        · cases h
      | _ => simp [foldI] at h
    | _ => simp [foldI] at h

theorem zip_swap {os : List Operand} {vs : List V} (h : ∀ x ∈ os.zip vs, RelV P S σ st w x.2 (a.eval x.1)) : ∀ x ∈ vs.zip (os.map a.eval), RelV P S σ st w x.1 x.2 := by
  induction os generalizing vs with
  | nil => simp
  | cons o os ih =>
    cases vs with
    | nil => simp
    | cons v vs =>
      intro x hx
      simp only [List.map_cons, List.zip_cons_cons, List.mem_cons] at hx
      rcases hx with rfl | hx
      · exact h (o, v) (by simp)
      · exact ih (fun y hy => h y (by simp [hy])) x hx

theorem builtin_sound {b : Builtin} {ts : List TypeId} {xs : List V} {vals : List Value} {ty : TypeId} {cs : Array Bool} {v : V} (h : evPureB P b ts xs = some v) (hr : ∀ x ∈ xs.zip vals, RelV P S σ st w x.1 x.2) (hl : xs.length = vals.length) :
    ∃ r, (builtin b ts.toArray ty cs vals.toArray).run P w = .ok (.value r) w ∧ RelV P S σ st w v r := by
  unfold evPureB at h
  split at h
  · split at h
    · rename_i s t
      split at h
      · rename_i hk
        cases h
        obtain ⟨u, rfl⟩ : ∃ u, vals = [u] := by
          cases vals with
          | nil => simp at hl
          | cons u us => cases us with
            | nil => exact ⟨u, rfl⟩
            | cons _ _ => simp at hl
        have := relV_str (hr (.d (.str s), u) (by simp)); subst this
        refine ⟨.int .i64 s.size, ?_, int_rel _ _⟩
        simp [builtin, Builtin.len_, run_underlying (ek_str hk), goInt]
      · cases h
    · rename_i x t _
      split at h
      · rename_i e n hk hn
        cases h
        obtain ⟨hu, _⟩ := tk_sl hk
        obtain ⟨u, rfl⟩ : ∃ u, vals = [u] := by
          cases vals with
          | nil => simp at hl
          | cons u us => cases us with
            | nil => exact ⟨u, rfl⟩
            | cons _ _ => simp at hl
        have hx := hr (x, u) (by simp)
        have : ∃ A c, u = .slice A n c := by
          unfold lenV at hn
          split at hn
          · cases hn; obtain ⟨A, c, h, _⟩ := relV_sl hx; exact ⟨A, c, h⟩
          · cases hn; obtain ⟨A, c, h, _⟩ := relV_rs hx; exact ⟨A, c, h⟩
          · cases hn; obtain ⟨A, h⟩ := relV_nils hx; exact ⟨A, 0, h⟩
          · cases hn
        obtain ⟨A, c, rfl⟩ := this
        refine ⟨.int .i64 n, ?_, int_rel _ _⟩
        simp [builtin, Builtin.len_, run_underlying hu, goInt]
      · cases h
    · cases h
  · split at h
    · rename_i k p r
      cases vals with
      | nil => simp at hl
      | cons u us =>
        have := relV_int (hr (.d (.int k p), u) (by simp)); subst this
        obtain ⟨r', h1, h2⟩ := foldI_min (vals := us) h (fun x hx => hr x (by simp [hx])) (by simpa using hl)
        refine ⟨r', ?_, h2⟩
        simp only [builtin, Builtin.min_, Sem.run_bind, h1, Result.andThen_ok, Sem.run_pure]
    · cases h
  · split at h
    · rename_i k p r
      cases vals with
      | nil => simp at hl
      | cons u us =>
        have := relV_int (hr (.d (.int k p), u) (by simp)); subst this
        obtain ⟨r', h1, h2⟩ := foldI_max (vals := us) h (fun x hx => hr x (by simp [hx])) (by simpa using hl)
        refine ⟨r', ?_, h2⟩
        simp only [builtin, Builtin.max_, Sem.run_bind, h1, Result.andThen_ok, Sem.run_pure]
    · cases h
  · cases h

theorem field_ok {t : TypeId} {f n : Nat} {x : Operand} {v : V} (hrel : EnvRel P S σ st w env a.tmps) (h : evPure P (evalT P env) n (.field t x f) = some v) :
    ∃ val, (Instr.field t (a.eval x) f).run P w = .ok val w ∧ RelV P S σ st w v val := by
  have hx := evalT_rel hrel t x
  simp only [evPure] at h
  split at h
  · rename_i e m he hk
    split at h
    · rename_i t' ds hv
      rw [hv] at hx
      split at h
      · rename_i ht
        subst ht
        split at h
        · rename_i y hy
          split at h
          · rename_i hty
            cases h
            obtain ⟨css, hA, hc, hf⟩ := relV_aggD hx
            rw [hA]
            rw [nth_eq] at hy
            obtain ⟨c, hcf, hfl⟩ := fls_at hf hy
            have hrc : RelC P S σ st w (.d y) c := hfl
            exact ⟨_, field_sound hk he hty hc hcf hrc, (valOf_rel hrc).to_v⟩
          · cases h
        · cases h
      · cases h
    · rename_i t' vs hv
      rw [hv] at hx
      split at h
      · rename_i ht
        subst ht
        split at h
        · rename_i y hy
          split at h
          · rename_i hty
            cases h
            obtain ⟨css, hA, hc, hf⟩ := relV_agg hx
            rw [hA]
            rw [nth_eq] at hy
            obtain ⟨c, hcf, hrc⟩ := rels_at hf hy
            exact ⟨_, field_sound hk he hty hc hcf hrc, (valOf_rel hrc).to_v⟩
          · cases h
        · cases h
      · cases h
    · cases h
  · cases h

theorem strAt_ok {t : TypeId} {s : ByteArray} {k : IntKind} {n : Int} {v : V} (hu : P.underlying t = some .string) (h : strAt s n = some v) : ∃ val, (Instr.index t (.string s) (.int k n)).run P w = .ok val w ∧ RelV P S σ st w v val := by
  unfold strAt at h
  split at h
  · rename_i b hb
    cases h
    refine ⟨.int .u8 b.toNat, ?_, int_rel _ _⟩
    simp [Instr.index, asIntOf, run_underlying hu, hb]
  · cases h
theorem arr_at {t e : TypeId} {m : Nat} {q : Int} {css : List (List Value)} {c : List Value} {y : V} {k : IntKind} (hk : tk P t = .agg m true) (he : compT P t 0 = some e) (h0 : 0 ≤ q) (h1 : q < m) (hty : hasT P e y = true)
    (hcomp : comps P t = some (css.map List.length)) (hc : css[q.toNat]? = some c) (hy : RelC P S σ st w y c) : (Instr.index t (.agg css.flatten.toArray) (.int k q)).run P w = .ok (valOf y c) w := by
  obtain ⟨⟨l, hl, hn⟩, ⟨fs, hu, hr⟩ | ⟨m', e', hu, _⟩⟩ := tk_agg hk
  · cases hr
  · obtain ⟨rfl, hpos, h2, _⟩ := comps_array hu hl
    simp at hn
    subst hn
    rw [hl] at hcomp
    have hcomp := Option.some.inj hcomp
    have hte : e' = e := by
      unfold compT compTs at he
      rw [hu, nth_eq] at he
      simp [List.getElem?_replicate] at he
      exact he.2
    subst hte
    obtain ⟨g1, g2⟩ := flatten_at hc
    rw [← hcomp, List.take_replicate, sum_replicate', Nat.min_eq_left (by omega)] at g1 g2
    have hrun := run_part hty hy g1 g2
    simp only [Instr.index, asIntOf, Sem.run_bind, Sem.run_pure, Result.andThen_ok, run_underlying hu, h0, h1, and_self, if_true, run_sizeOf_pos hpos, hrun]
theorem index_ok {t : TypeId} {n : Nat} {x i : Operand} {v : V} (hrel : EnvRel P S σ st w env a.tmps) (h : evPure P (evalT P env) n (.index t x i) = some v) :
    ∃ val, (Instr.index t (a.eval x) (a.eval i)).run P w = .ok val w ∧ RelV P S σ st w v val := by
  have hx := evalT_rel hrel t x
  have hi := evalT_rel hrel 0 i
  simp only [evPure] at h
  split at h
  · rename_i s k q hv1 hv2
    rw [hv1] at hx; rw [hv2] at hi
    rw [relV_int hi, relV_str hx]
    split at h
    · rename_i hk
      exact strAt_ok (ek_str hk) h
    · cases h
  · rename_i t' ds k q hv1 hv2
    rw [hv1] at hx; rw [hv2] at hi
    rw [relV_int hi]
    split at h
    · rename_i m e hk he
      split at h
      · rename_i hc
        obtain ⟨rfl, h0, h1⟩ := hc
        split at h
        · rename_i y hy
          split at h
          · rename_i hty
            cases h
            obtain ⟨css, hA, hcomp, hf⟩ := relV_aggD hx
            rw [hA]
            obtain ⟨c, hcf, hfl⟩ := fls_at hf hy
            have hrc : RelC P S σ st w (.d y) c := hfl
            exact ⟨_, arr_at hk he h0 h1 hty hcomp hcf hrc, (valOf_rel hrc).to_v⟩
          · cases h
        · cases h
      · cases h
    · cases h
  · rename_i t' vs k q hv1 hv2
    rw [hv1] at hx; rw [hv2] at hi
    rw [relV_int hi]
    split at h
    · rename_i m e hk he
      split at h
      · rename_i hc
        obtain ⟨rfl, h0, h1⟩ := hc
        split at h
        · rename_i y hy
          split at h
          · rename_i hty
            cases h
            obtain ⟨css, hA, hcomp, hf⟩ := relV_agg hx
            rw [hA]
            obtain ⟨c, hcf, hrc⟩ := rels_at hf hy
            exact ⟨_, arr_at hk he h0 h1 hty hcomp hcf hrc, (valOf_rel hrc).to_v⟩
          · cases h
        · cases h
      · cases h
    · cases h
  · cases h
theorem strCut_ok {t : TypeId} {s : ByteArray} {lo hi mx : Option Value} {l h m : Option Int} {v : V} (hu : P.underlying t = some .string) (hc : strCut s l h m = some v)
    (hl : (lo = none ∧ l = none) ∨ ∃ k n, lo = some (.int k n) ∧ l = some n) (hh : (hi = none ∧ h = none) ∨ ∃ k n, hi = some (.int k n) ∧ h = some n) (hm : (mx = none ∧ m = none) ∨ ∃ k n, mx = some (.int k n) ∧ m = some n) :
    ∃ val, (Instr.sliceAt t (.string s) lo hi mx).run P w = .ok val w ∧ RelV P S σ st w v val := by
  unfold strCut at hc
  split at hc
  · cases hc
  · rcases hm with ⟨rfl, _⟩ | ⟨_, _, _, h⟩
    · split at hc
      · rename_i hb
        obtain ⟨b1, b2, b3⟩ := hb
        cases hc
        refine ⟨_, ?_, str_rel _⟩
        rcases hl with ⟨rfl, rfl⟩ | ⟨kl, nl, rfl, rfl⟩ <;> rcases hh with ⟨rfl, rfl⟩ | ⟨kh, nh, rfl, rfl⟩
        · simp [Instr.sliceAt, Instr.slice, run_underlying hu, Instr.sliceBounds]
        · simp only [Option.getD] at b1 b2 b3
          simp [Instr.sliceAt, Instr.slice, run_underlying hu, Instr.sliceBounds, Instr.sliceBound, asIntOf, b2, b3]
        · simp only [Option.getD] at b1 b2 b3
          simp [Instr.sliceAt, Instr.slice, run_underlying hu, Instr.sliceBounds, Instr.sliceBound, asIntOf, b1, b2]
        · simp only [Option.getD] at b1 b2 b3
          have e : (nh.toNat : Int) = nh := by omega
          have b4 : 0 ≤ nh := by omega
          simp [Instr.sliceAt, Instr.slice, run_underlying hu, Instr.sliceBounds, Instr.sliceBound, asIntOf, b1, b2, b3, e, b4]
      · cases hc
    · cases h
theorem slice_ok {t : TypeId} {n : Nat} {x : Operand} {lo hi mx : Option Operand} {v : V} (hrel : EnvRel P S σ st w env a.tmps) (h : evPure P (evalT P env) n (.slice t x lo hi mx) = some v) :
    ∃ val, (Instr.sliceAt t (a.eval x) (lo.map a.eval) (hi.map a.eval) (mx.map a.eval)).run P w = .ok val w ∧ RelV P S σ st w v val := by
  have hx := evalT_rel hrel t x
  simp only [evPure] at h
  split at h
  · rename_i e l q m hk hl hq hm
    split at h
    · rename_i hc
      refine slice_sound hk h hx ?_ ?_ (optI_rel hrel hl) (optI_rel hrel hq) (optI_rel hrel hm) hc.2
      · intro e' ds he'
        have := hc.1
        rw [he'] at this
        simpa [elemT] using this
      · intro er k ver off len full he'
        have := hc.1
        rw [he'] at this
        simpa [elemT] using this
    · cases h
  · rename_i l q m hk hl hq hm
    split at h
    · rename_i hks
      split at h
      · rename_i s hv
        rw [hv] at hx
        rw [relV_str hx]
        exact strCut_ok (ek_str hks) h (optI_rel hrel hl) (optI_rel hrel hq) (optI_rel hrel hm)
      · cases h
    · cases h
  · cases h

theorem extract_ok {n i : Nat} {x : Operand} {v : V} (hrel : EnvRel P S σ st w env a.tmps) (h : evPure P (evalT P env) n (.extract x i) = some v) :
    ∃ val, (Instr.extract (a.eval x) i).run P w = .ok val w ∧ RelV P S σ st w v val := by
  have hx := evalT_rel hrel 0 x
  simp only [evPure] at h
  split at h
  · rename_i vs hv
    rw [hv] at hx
    obtain ⟨vals, hA, hr⟩ := hx
    rw [hA]
    rw [nth_eq] at h
    obtain ⟨u, hu, hru⟩ := relNs_at hr h
    exact ⟨u, by simp [Instr.extract, hu], hru.to_v⟩
  · cases h
end
end Go.Ev
