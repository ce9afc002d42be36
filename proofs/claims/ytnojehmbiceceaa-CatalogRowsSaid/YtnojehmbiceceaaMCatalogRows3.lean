/- Parts of one proof, joined: EvG, EvH, EvI, EvJ, EvU. -/
import Derived.Test.YtnojehmbiceceaaMCatalogRows2
section
set_option linter.unusedVariables false
set_option linter.unusedSimpArgs false
set_option linter.unusedSectionVars false
namespace Go.Ev
open Go.RowKit

section
variable {P : Program} {S : Nat → Prop} {σ : Sig} {st : Store} {w : World} {env : List V} {a : Act}

theorem run_indexAt_ok {t e : TypeId} (hu : P.underlying t = some (.slice e)) (hpos : 0 < szOf P e) (A : Addr) (len cap : Nat) (k : IntKind) (i : Int) (h0 : 0 ≤ i) (h1 : i < len) (w : World) :
    (Instr.indexAt t (.slice (some A) len cap) (.int k i)).run P w = .ok (.pointer (some (A.add (i.toNat * szOf P e)))) w := by
  simp [Instr.indexAt, run_underlying hu, asIntOf, h0, h1, run_sizeOf_pos hpos]
theorem run_indexAt_arr {t e : TypeId} {m : Nat} (hu : P.underlying t = some (.array m e)) (hpos : 0 < szOf P e) (A : Addr) (k : IntKind) (i : Int) (h0 : 0 ≤ i) (h1 : i < m) (w : World) :
    (Instr.indexAt t (.pointer (some A)) (.int k i)).run P w = .ok (.pointer (some (A.add (i.toNat * szOf P e)))) w := by
  simp [Instr.indexAt, run_underlying hu, asIntOf, h0, h1, run_sizeOf_pos hpos, Instr.sureAddr]

theorem relV_p {k : Key} {ver i : Nat} {path : List (TypeId × Nat)} {val : Value} (h : RelV P S σ st w (.p k ver i path) val) : ∃ A, val = .pointer (some A) ∧ ver ≤ (st k).ver ∧ (ver = (st k).ver → (st k).live = true →
      0 < szOf P (st k).e ∧ ∃ b cap off, σ k = some (b, cap) ∧ pathOff P path = some off ∧ A = ⟨b, i * szOf P (st k).e + off, none⟩) := by
  obtain ⟨A, h1, h2⟩ := relV_one h rfl (by simp) (by simp)
  simp at h1
  exact ⟨A, h1, h2⟩
theorem relV_dp {x : D} {val : Value} (h : RelV P S σ st w (.d (.ptr x)) val) : ∃ (b o : Nat) (xs : List Value), val = .pointer (some ⟨b, o, none⟩) ∧ S b ∧ cellsAt w b o xs ∧ Fl P S w x xs := by
  obtain ⟨b, o, xs, h1, h2⟩ := relV_one h rfl (by simp) (by simp)
  simp at h1
  exact ⟨b, o, xs, h1, h2⟩
theorem relV_aggD {t : TypeId} {ds : List D} {val : Value} (h : RelV P S σ st w (.d (.agg t ds)) val) : ∃ css : List (List Value), val = .agg css.flatten.toArray ∧ comps P t = some (css.map List.length) ∧ Fl.fls P S w ds css := by
  rcases h with h | ⟨_, cs, rfl, css, rfl, h2, h3⟩ | ⟨h, _⟩
  · cases h
  · exact ⟨css, rfl, h2, h3⟩
  · cases h
theorem relV_agg {t : TypeId} {vs : List V} {val : Value} (h : RelV P S σ st w (.agg t vs) val) : ∃ css : List (List Value), val = .agg css.flatten.toArray ∧ comps P t = some (css.map List.length) ∧ RelC.rels P S σ st w vs css := by
  rcases h with h | ⟨_, cs, rfl, css, rfl, h2, h3⟩ | ⟨h, _⟩
  · cases h
  · exact ⟨css, rfl, h2, h3⟩
  · cases h

theorem fieldAddr_sound {t : TypeId} {f n : Nat} {x : Operand} {v : V} (hrel : EnvRel P S σ st w env a.tmps) (h : evPure P (evalT P env) n (.fieldAddr t x f) = some v) :
    ∃ val, (Instr.fieldAt t (a.eval x) f).run P w = .ok val w ∧ RelV P S σ st w v val := by
  have hx := evalT_rel hrel 0 x
  simp only [evPure] at h
  split at h
  · rename_i m k ver i path hk hv
    rw [hv] at hx
    split at h
    · rename_i hf
      cases h
      obtain ⟨A, hA, hver, hfr⟩ := relV_p hx
      rw [hA]
      obtain ⟨l, hl, hlm, hrun⟩ := run_fieldAt (A := A) hk hf w
      refine ⟨_, hrun, RelC.to_v ⟨_, rfl, hver, fun h1 h2 => ?_⟩ rfl⟩
      obtain ⟨gp, b, cap, off, g1, g2, rfl⟩ := hfr h1 h2
      exact ⟨gp, b, cap, off + (l.take f).sum, g1, pathOff_append g2 hl (by omega), by rw [add_none]; congr 1; omega⟩
    · cases h
  · rename_i m t' ds hk hv
    rw [hv] at hx
    split at h
    · rename_i ht
      subst ht
      split at h
      · rename_i y hy
        cases h
        obtain ⟨b, o, xs, hA, hb, hat, css, rfl, hc, hf⟩ := relV_dp hx
        rw [hA]
        rw [nth_eq] at hy
        obtain ⟨c, hcf, hfl⟩ := fls_at hf hy
        have hlt : f < m := by
          obtain ⟨⟨l, hl, hlm⟩, _⟩ := tk_agg hk
          rw [hc] at hl; cases hl
          have := (List.getElem?_eq_some_iff.1 hcf).1
          simpa [← hlm] using this
        obtain ⟨l, hl, hlm, hrun⟩ := run_fieldAt (A := ⟨b, o, none⟩) hk hlt w
        rw [hc] at hl; cases hl
        obtain ⟨g1, g2⟩ := flatten_at hcf
        refine ⟨_, hrun, RelC.to_v ⟨b, o + ((css.map List.length).take f).sum, c, by rw [add_none], hb, hat.part g1 g2, hfl⟩ rfl⟩
      · cases h
    · cases h
  · cases h

theorem indexAddr_sound {t : TypeId} {n : Nat} {x i : Operand} {v : V} (hrel : EnvRel P S σ st w env a.tmps) (h : evPure P (evalT P env) n (.indexAddr t x i) = some v) :
    ∃ val, (Instr.indexAt t (a.eval x) (a.eval i)).run P w = .ok val w ∧ RelV P S σ st w v val := by
  have hx := evalT_rel hrel t x
  have hi := evalT_rel hrel 0 i
  simp only [evPure] at h
  split at h
  · rename_i e e' ds k q hk hv1 hv2
    rw [hv1] at hx; rw [hv2] at hi
    rw [relV_int hi]
    split at h
    · rename_i hc
      obtain ⟨rfl, h0, h1⟩ := hc
      obtain ⟨hu, _, hpos, _⟩ := tk_sl hk
      obtain ⟨A, cap, hA, hds⟩ := relV_sl hx
      rw [hA]
      simp only [Option.map_eq_some_iff] at h
      obtain ⟨y, hy, rfl⟩ := h
      rcases hds with rfl | ⟨b, o, css, rfl, hb, hcc, hcs, hat, hf⟩
      · simp at hy
      · obtain ⟨c, hcf, hfl⟩ := fls_at hf hy
        obtain ⟨g1, g2⟩ := flatten_at hcf
        rw [take_sum_const hcs (by have := (List.getElem?_eq_some_iff.1 hcf).1; omega)] at g1 g2
        refine ⟨_, run_indexAt_ok hu hpos ⟨b, o, none⟩ _ _ _ q h0 h1 w, RelC.to_v ⟨b, o + q.toNat * szOf P e, c, by rw [add_none], hb, hat.part g1 g2, hfl⟩ rfl⟩
    · cases h
  · rename_i e er k ver off len full kk q hk hv1 hv2
    rw [hv1] at hx; rw [hv2] at hi
    rw [relV_int hi]
    split at h
    · rename_i hc
      obtain ⟨rfl, h0, h1⟩ := hc
      cases h
      obtain ⟨hu, _, hpos, _⟩ := tk_sl hk
      obtain ⟨A, c, hA, hlc, hsome, hver, hfr⟩ := relV_rs hx
      obtain ⟨A', rfl⟩ := hsome (by omega)
      rw [hA]
      refine ⟨_, run_indexAt_ok hu hpos A' _ _ _ q h0 h1 w, RelC.to_v ⟨_, rfl, hver, fun v1 v2 => ?_⟩ rfl⟩
      obtain ⟨g0, gp, g1, g2⟩ := hfr v1 v2
      cases hs : σ k with
      | none => have := (g1 hs).2; omega
      | some bc =>
        obtain ⟨b, cap⟩ := bc
        obtain ⟨q1, q2, _⟩ := g2 b cap hs
        rcases q1 with q1 | q1
        · omega
        · cases q1
          exact ⟨by rw [g0]; exact gp, b, cap, 0, rfl, rfl, by rw [add_none, g0, Nat.add_mul]; rfl⟩
    · cases h
  · rename_i m k ver j path kk q hk hv1 hv2
    rw [hv1] at hx; rw [hv2] at hi
    rw [relV_int hi]
    split at h
    · rename_i hc
      obtain ⟨h0, h1⟩ := hc
      cases h
      obtain ⟨A, hA, hver, hfr⟩ := relV_p hx
      rw [hA]
      obtain ⟨⟨l, hl, hlm⟩, ⟨fs, hu, hr⟩ | ⟨m', e, hu, _⟩⟩ := tk_agg hk
      · cases hr
      · obtain ⟨rfl, hpos, h2, _⟩ := comps_array hu hl
        simp at hlm
        subst hlm
        refine ⟨_, run_indexAt_arr hu hpos A _ q h0 h1 w, RelC.to_v ⟨_, rfl, hver, fun v1 v2 => ?_⟩ rfl⟩
        obtain ⟨gp, b, cap, off, g1, g2, rfl⟩ := hfr v1 v2
        refine ⟨gp, b, cap, off + ((List.replicate m' (szOf P e)).take q.toNat).sum, g1, pathOff_append g2 hl (by simp; omega), ?_⟩
        rw [add_none, List.take_replicate, sum_replicate', Nat.min_eq_left (by omega)]
        congr 1; omega
    · cases h
  · cases h

theorem capsOk_cons {v : V} {vs : List V} (h : capsOk (v :: vs) = true) : capsOk vs = true ∧ v.isAgg = false ∧ v ≠ .und ∧ ∀ us, v ≠ .tup us := by
  cases v with
  | p k ver i path => exact ⟨by simpa [capsOk] using h, rfl, by simp, by simp⟩
  | d x =>
    cases x with
    | ptr y => exact ⟨by simpa [capsOk] using h, rfl, by simp, by simp⟩
    | _ => simp [capsOk] at h
  | _ => simp [capsOk] at h
theorem capsOk_rel : ∀ {vs : List V} {vals : List Value}, capsOk vs = true → (∀ x ∈ vs.zip vals, RelV P S σ st w x.1 x.2) → vs.length = vals.length → RelC.rels P S σ st w vs (vals.map fun v => [v])
  | [], [], _, _, _ => rfl
  | [], _ :: _, _, _, h => by simp at h
  | v :: vs, [], _, _, h => by simp at h
  | v :: vs, u :: us, hc, hr, hl => by
    obtain ⟨c1, c2, c3, c4⟩ := capsOk_cons hc
    refine ⟨[u], us.map (fun v => [v]), rfl, ?_, capsOk_rel c1 (fun x hx => hr x (by simp [hx])) (by simpa using hl)⟩
    exact relV_one (hr (v, u) (by simp)) c2 c3 c4

/-- Least and greatest. -/
theorem foldI_min {k : IntKind} : ∀ {vs : List V} {vals : List Value} {p : Int} {v : V}, foldI minI k vs (some p) = some v → (∀ x ∈ vs.zip vals, RelV P S σ st w x.1 x.2) → vs.length = vals.length →
    ∃ r, (vals.foldlM Builtin.min2 (.int k p) : Sem Value).run P w = .ok r w ∧ RelV P S σ st w v r
  | [], [], p, v, h, _, _ => by simp only [foldI, Option.some.injEq] at h; subst h; exact ⟨_, rfl, int_rel _ _⟩
  | [], _ :: _, _, _, _, _, h => by simp at h
  | _ :: _, [], _, _, _, _, h => by simp at h
  | x :: vs, u :: us, p, v, h, hr, hl => by
    cases x with
    | d y =>
      cases y with
      | int k' q =>
        simp only [foldI] at h
        split at h
        · rename_i hk
          subst hk
          have := relV_int (hr (.d (.int k' q), u) (by simp)); subst this
          obtain ⟨r, h1, h2⟩ := foldI_min (vals := us) h (fun x hx => hr x (by simp [hx])) (by simpa using hl)
          refine ⟨r, ?_, h2⟩
          simp only [List.foldlM_cons, Sem.run_bind, Builtin.min2, Sem.run_pure, Result.andThen_ok]
          exact h1
        · cases h
      | _ => simp [foldI] at h
    | _ => simp [foldI] at h
theorem foldI_max {k : IntKind} : ∀ {vs : List V} {vals : List Value} {p : Int} {v : V}, foldI maxI k vs (some p) = some v → (∀ x ∈ vs.zip vals, RelV P S σ st w x.1 x.2) → vs.length = vals.length →
    ∃ r, (vals.foldlM Builtin.max2 (.int k p) : Sem Value).run P w = .ok r w ∧ RelV P S σ st w v r
  | [], [], p, v, h, _, _ => by simp only [foldI, Option.some.injEq] at h; subst h; exact ⟨_, rfl, int_rel _ _⟩
  | [], _ :: _, _, _, _, _, h => by simp at h
  | _ :: _, [], _, _, _, _, h => by simp at h
  | x :: vs, u :: us, p, v, h, hr, hl => by
    cases x with
    | d y =>
      cases y with
      | int k' q =>
        simp only [foldI] at h
        split at h
        · rename_i hk
          subst hk
          have := relV_int (hr (.d (.int k' q), u) (by simp)); subst this
          obtain ⟨r, h1, h2⟩ := foldI_max (vals := us) h (fun x hx => hr x (by simp [hx])) (by simpa using hl)
          refine ⟨r, ?_, h2⟩
          simp only [List.foldlM_cons, Sem.run_bind, Builtin.max2, Sem.run_pure, Result.andThen_ok]
          exact h1
        · cases h
      | _ => simp [foldI] at h
    | _ => simp [foldI] at h

theorem zip_swap {os : List Operand} {vs : List V} (h : ∀ x ∈ os.zip vs, RelV P S σ st w x.2 (a.eval x.1)) : ∀ x ∈ vs.zip (os.map a.eval), RelV P S σ st w x.1 x.2 := by
  induction os generalizing vs with
  | nil => simp
  | cons o os ih =>
    cases vs with
    | nil => simp
    | cons v vs =>
      intro x hx
      simp only [List.map_cons, List.zip_cons_cons, List.mem_cons] at hx
      rcases hx with rfl | hx
      · exact h (o, v) (by simp)
      · exact ih (fun y hy => h y (by simp [hy])) x hx

theorem builtin_sound {b : Builtin} {ts : List TypeId} {xs : List V} {vals : List Value} {ty : TypeId} {cs : Array Bool} {v : V} (h : evPureB P b ts xs = some v) (hr : ∀ x ∈ xs.zip vals, RelV P S σ st w x.1 x.2) (hl : xs.length = vals.length) :
    ∃ r, (builtin b ts.toArray ty cs vals.toArray).run P w = .ok (.value r) w ∧ RelV P S σ st w v r := by
  unfold evPureB at h
  split at h
  · split at h
    · rename_i s t
      split at h
      · rename_i hk
        cases h
        obtain ⟨u, rfl⟩ : ∃ u, vals = [u] := by
          cases vals with
          | nil => simp at hl
          | cons u us => cases us with
            | nil => exact ⟨u, rfl⟩
            | cons _ _ => simp at hl
        have := relV_str (hr (.d (.str s), u) (by simp)); subst this
        refine ⟨.int .i64 s.size, ?_, int_rel _ _⟩
        simp [builtin, Builtin.len_, run_underlying (ek_str hk), goInt]
      · cases h
    · rename_i x t _
      split at h
      · rename_i e n hk hn
        cases h
        obtain ⟨hu, _⟩ := tk_sl hk
        obtain ⟨u, rfl⟩ : ∃ u, vals = [u] := by
          cases vals with
          | nil => simp at hl
          | cons u us => cases us with
            | nil => exact ⟨u, rfl⟩
            | cons _ _ => simp at hl
        have hx := hr (x, u) (by simp)
        have : ∃ A c, u = .slice A n c := by
          unfold lenV at hn
          split at hn
          · cases hn; obtain ⟨A, c, h, _⟩ := relV_sl hx; exact ⟨A, c, h⟩
          · cases hn; obtain ⟨A, c, h, _⟩ := relV_rs hx; exact ⟨A, c, h⟩
          · cases hn; exact ⟨_, 0, relV_nils hx⟩
          · cases hn; obtain ⟨A, h⟩ := relV_nila hx; exact ⟨A, 0, h⟩
          · cases hn
        obtain ⟨A, c, rfl⟩ := this
        refine ⟨.int .i64 n, ?_, int_rel _ _⟩
        simp [builtin, Builtin.len_, run_underlying hu, goInt]
      · cases h
    · cases h
  · split at h
    · rename_i k p r
      cases vals with
      | nil => simp at hl
      | cons u us =>
        have := relV_int (hr (.d (.int k p), u) (by simp)); subst this
        obtain ⟨r', h1, h2⟩ := foldI_min (vals := us) h (fun x hx => hr x (by simp [hx])) (by simpa using hl)
        refine ⟨r', ?_, h2⟩
        simp only [builtin, Builtin.min_, Sem.run_bind, h1, Result.andThen_ok, Sem.run_pure]
    · cases h
  · split at h
    · rename_i k p r
      cases vals with
      | nil => simp at hl
      | cons u us =>
        have := relV_int (hr (.d (.int k p), u) (by simp)); subst this
        obtain ⟨r', h1, h2⟩ := foldI_max (vals := us) h (fun x hx => hr x (by simp [hx])) (by simpa using hl)
        refine ⟨r', ?_, h2⟩
        simp only [builtin, Builtin.max_, Sem.run_bind, h1, Result.andThen_ok, Sem.run_pure]
    · cases h
  · cases h

theorem field_ok {t : TypeId} {f n : Nat} {x : Operand} {v : V} (hrel : EnvRel P S σ st w env a.tmps) (h : evPure P (evalT P env) n (.field t x f) = some v) :
    ∃ val, (Instr.field t (a.eval x) f).run P w = .ok val w ∧ RelV P S σ st w v val := by
  have hx := evalT_rel hrel t x
  simp only [evPure] at h
  split at h
  · rename_i e m he hk
    split at h
    · rename_i t' ds hv
      rw [hv] at hx
      split at h
      · rename_i ht
        subst ht
        split at h
        · rename_i y hy
          split at h
          · rename_i hty
            cases h
            obtain ⟨css, hA, hc, hf⟩ := relV_aggD hx
            rw [hA]
            rw [nth_eq] at hy
            obtain ⟨c, hcf, hfl⟩ := fls_at hf hy
            have hrc : RelC P S σ st w (.d y) c := hfl
            exact ⟨_, field_sound hk he hty hc hcf hrc, (valOf_rel hrc).to_v⟩
          · cases h
        · cases h
      · cases h
    · rename_i t' vs hv
      rw [hv] at hx
      split at h
      · rename_i ht
        subst ht
        split at h
        · rename_i y hy
          split at h
          · rename_i hty
            cases h
            obtain ⟨css, hA, hc, hf⟩ := relV_agg hx
            rw [hA]
            rw [nth_eq] at hy
            obtain ⟨c, hcf, hrc⟩ := rels_at hf hy
            exact ⟨_, field_sound hk he hty hc hcf hrc, (valOf_rel hrc).to_v⟩
          · cases h
        · cases h
      · cases h
    · cases h
  · cases h

theorem strAt_ok {t : TypeId} {s : ByteArray} {k : IntKind} {n : Int} {v : V} (hu : P.underlying t = some .string) (h : strAt s n = some v) : ∃ val, (Instr.index t (.string s) (.int k n)).run P w = .ok val w ∧ RelV P S σ st w v val := by
  unfold strAt at h
  split at h
  · rename_i b hb
    cases h
    refine ⟨.int .u8 b.toNat, ?_, int_rel _ _⟩
    simp [Instr.index, asIntOf, run_underlying hu, hb]
  · cases h
theorem arr_at {t e : TypeId} {m : Nat} {q : Int} {css : List (List Value)} {c : List Value} {y : V} {k : IntKind} (hk : tk P t = .agg m true) (he : compT P t 0 = some e) (h0 : 0 ≤ q) (h1 : q < m) (hty : hasT P e y = true)
    (hcomp : comps P t = some (css.map List.length)) (hc : css[q.toNat]? = some c) (hy : RelC P S σ st w y c) : (Instr.index t (.agg css.flatten.toArray) (.int k q)).run P w = .ok (valOf y c) w := by
  obtain ⟨⟨l, hl, hn⟩, ⟨fs, hu, hr⟩ | ⟨m', e', hu, _⟩⟩ := tk_agg hk
  · cases hr
  · obtain ⟨rfl, hpos, h2, _⟩ := comps_array hu hl
    simp at hn
    subst hn
    rw [hl] at hcomp
    have hcomp := Option.some.inj hcomp
    have hte : e' = e := by
      unfold compT compTs at he
      rw [hu, nth_eq] at he
      simp [List.getElem?_replicate] at he
      exact he.2
    subst hte
    obtain ⟨g1, g2⟩ := flatten_at hc
    rw [← hcomp, List.take_replicate, sum_replicate', Nat.min_eq_left (by omega)] at g1 g2
    have hrun := run_part hty hy g1 g2
    simp only [Instr.index, asIntOf, Sem.run_bind, Sem.run_pure, Result.andThen_ok, run_underlying hu, h0, h1, and_self, if_true, run_sizeOf_pos hpos, hrun]
theorem index_ok {t : TypeId} {n : Nat} {x i : Operand} {v : V} (hrel : EnvRel P S σ st w env a.tmps) (h : evPure P (evalT P env) n (.index t x i) = some v) :
    ∃ val, (Instr.index t (a.eval x) (a.eval i)).run P w = .ok val w ∧ RelV P S σ st w v val := by
  have hx := evalT_rel hrel t x
  have hi := evalT_rel hrel 0 i
  simp only [evPure] at h
  split at h
  · rename_i s k q hv1 hv2
    rw [hv1] at hx; rw [hv2] at hi
    rw [relV_int hi, relV_str hx]
    split at h
    · rename_i hk
      exact strAt_ok (ek_str hk) h
    · cases h
  · rename_i t' ds k q hv1 hv2
    rw [hv1] at hx; rw [hv2] at hi
    rw [relV_int hi]
    split at h
    · rename_i m e hk he
      split at h
      · rename_i hc
        obtain ⟨rfl, h0, h1⟩ := hc
        split at h
        · rename_i y hy
          split at h
          · rename_i hty
            cases h
            obtain ⟨css, hA, hcomp, hf⟩ := relV_aggD hx
            rw [hA]
            obtain ⟨c, hcf, hfl⟩ := fls_at hf hy
            have hrc : RelC P S σ st w (.d y) c := hfl
            exact ⟨_, arr_at hk he h0 h1 hty hcomp hcf hrc, (valOf_rel hrc).to_v⟩
          · cases h
        · cases h
      · cases h
    · cases h
  · rename_i t' vs k q hv1 hv2
    rw [hv1] at hx; rw [hv2] at hi
    rw [relV_int hi]
    split at h
    · rename_i m e hk he
      split at h
      · rename_i hc
        obtain ⟨rfl, h0, h1⟩ := hc
        split at h
        · rename_i y hy
          split at h
          · rename_i hty
            cases h
            obtain ⟨css, hA, hcomp, hf⟩ := relV_agg hx
            rw [hA]
            obtain ⟨c, hcf, hrc⟩ := rels_at hf hy
            exact ⟨_, arr_at hk he h0 h1 hty hcomp hcf hrc, (valOf_rel hrc).to_v⟩
          · cases h
        · cases h
      · cases h
    · cases h
  · cases h
theorem strCut_ok {t : TypeId} {s : ByteArray} {lo hi mx : Option Value} {l h m : Option Int} {v : V} (hu : P.underlying t = some .string) (hc : strCut s l h m = some v)
    (hl : (lo = none ∧ l = none) ∨ ∃ k n, lo = some (.int k n) ∧ l = some n) (hh : (hi = none ∧ h = none) ∨ ∃ k n, hi = some (.int k n) ∧ h = some n) (hm : (mx = none ∧ m = none) ∨ ∃ k n, mx = some (.int k n) ∧ m = some n) :
    ∃ val, (Instr.sliceAt t (.string s) lo hi mx).run P w = .ok val w ∧ RelV P S σ st w v val := by
  unfold strCut at hc
  split at hc
  · cases hc
  · rcases hm with ⟨rfl, _⟩ | ⟨_, _, _, h⟩
    · split at hc
      · rename_i hb
        obtain ⟨b1, b2, b3⟩ := hb
        cases hc
        refine ⟨_, ?_, str_rel _⟩
        rcases hl with ⟨rfl, rfl⟩ | ⟨kl, nl, rfl, rfl⟩ <;> rcases hh with ⟨rfl, rfl⟩ | ⟨kh, nh, rfl, rfl⟩
        · simp [Instr.sliceAt, Instr.slice, run_underlying hu, Instr.sliceBounds]
        · simp only [Option.getD] at b1 b2 b3
          simp [Instr.sliceAt, Instr.slice, run_underlying hu, Instr.sliceBounds, Instr.sliceBound, asIntOf, b2, b3]
        · simp only [Option.getD] at b1 b2 b3
          simp [Instr.sliceAt, Instr.slice, run_underlying hu, Instr.sliceBounds, Instr.sliceBound, asIntOf, b1, b2]
        · simp only [Option.getD] at b1 b2 b3
          have e : (nh.toNat : Int) = nh := by omega
          have b4 : 0 ≤ nh := by omega
          simp [Instr.sliceAt, Instr.slice, run_underlying hu, Instr.sliceBounds, Instr.sliceBound, asIntOf, b1, b2, b3, e, b4]
      · cases hc
    · cases h
theorem slice_ok {t : TypeId} {n : Nat} {x : Operand} {lo hi mx : Option Operand} {v : V} (hrel : EnvRel P S σ st w env a.tmps) (h : evPure P (evalT P env) n (.slice t x lo hi mx) = some v) :
    ∃ val, (Instr.sliceAt t (a.eval x) (lo.map a.eval) (hi.map a.eval) (mx.map a.eval)).run P w = .ok val w ∧ RelV P S σ st w v val := by
  have hx := evalT_rel hrel t x
  simp only [evPure] at h
  split at h
  · rename_i e l q m hk hl hq hm
    split at h
    · rename_i hc
      refine slice_sound hk h hx ?_ ?_ (optI_rel hrel hl) (optI_rel hrel hq) (optI_rel hrel hm) hc.2
      · intro e' ds he'
        have := hc.1
        rw [he'] at this
        simpa [elemT] using this
      · intro er k ver off len full he'
        have := hc.1
        rw [he'] at this
        simpa [elemT] using this
    · cases h
  · rename_i l q m hk hl hq hm
    split at h
    · rename_i hks
      split at h
      · rename_i s hv
        rw [hv] at hx
        rw [relV_str hx]
        exact strCut_ok (ek_str hks) h (optI_rel hrel hl) (optI_rel hrel hq) (optI_rel hrel hm)
      · cases h
    · cases h
  · cases h

theorem extract_ok {n i : Nat} {x : Operand} {v : V} (hrel : EnvRel P S σ st w env a.tmps) (h : evPure P (evalT P env) n (.extract x i) = some v) :
    ∃ val, (Instr.extract (a.eval x) i).run P w = .ok val w ∧ RelV P S σ st w v val := by
  have hx := evalT_rel hrel 0 x
  simp only [evPure] at h
  split at h
  · rename_i vs hv
    rw [hv] at hx
    obtain ⟨vals, hA, hr⟩ := hx
    rw [hA]
    rw [nth_eq] at h
    obtain ⟨u, hu, hru⟩ := relNs_at hr h
    exact ⟨u, by simp [Instr.extract, hu], hru.to_v⟩
  · cases h
end
end Go.Ev
end
section
set_option linter.unusedVariables false
set_option linter.unusedSimpArgs false
set_option linter.unusedSectionVars false
namespace Go.Ev
open Go.RowKit

section
variable {P : Program} {S : Nat → Prop} {σ : Sig} {st : Store} {w : World}

/-- A zero stands for its cells, whatever memory holds. -/
def ZOk (P : Program) (S : Nat → Prop) (σ : Sig) (st : Store) (w : World) (t : TypeId) (cs : List Value) (v : V) : Prop := RelC P S σ st w v cs ∧ hasT P t v = true ∧ cs.length = szOf P t
theorem zeroOne_rel {x : Value} {v : V} (h : zeroOne x = some v) : RelC P S σ st w v [x] ∧ v.isAgg = false ∧ (∃ d, v = .d d ∧ ∀ t ds, d ≠ .agg t ds) := by
  cases x <;> first
    | (simp [zeroOne] at h; subst h; exact ⟨rfl, rfl, _, rfl, fun _ _ h => by cases h⟩)
    | (rename_i A; cases A <;> simp [zeroOne] at h; subst h; exact ⟨rfl, rfl, _, rfl, fun _ _ h => by cases h⟩)
    | simp [zeroOne] at h
theorem zeroGo_sound {z : TypeId → List Value → Option V} (hz : ∀ e cs v, z e cs = some v → ZOk P S σ st w e cs v) {t : TypeId} : ∀ {sz : List Nat} {i : Nat} {cs : List Value} {vs : List V}, zeroGo P z t i sz cs = some vs →
    ∃ css, css.flatten = cs ∧ css.map List.length = sz ∧ RelC.rels P S σ st w vs css
  | [], i, [], vs, h => by simp [zeroGo] at h; subst h; exact ⟨[], rfl, rfl, rfl⟩
  | [], i, _ :: _, vs, h => by simp [zeroGo] at h
  | s :: sz, i, cs, vs, h => by
    unfold zeroGo at h
    split at h
    · rename_i hs
      split at h
      · rename_i e he
        split at h
        · rename_i v r h1 h2
          split at h
          · rename_i hse
            cases h
            obtain ⟨css, g1, g2, g3⟩ := zeroGo_sound hz h2
            refine ⟨cs.take s :: css, by simp [g1], by simp [g2]; omega, ⟨_, _, rfl, (hz _ _ _ h1).1, g3⟩⟩
          · cases h
        · cases h
      · cases h
    · cases h
theorem hasT_mkAgg {t : TypeId} {vs : List V} {n : Nat} {r : Bool} (h : tk P t = .agg n r) : hasT P t (mkAgg t vs) = true := by
  unfold mkAgg
  split <;> simp [hasT, h]
theorem zeroAt_sound : ∀ (n : Nat) (t : TypeId) (cs : List Value) (v : V), zeroAt P n t cs = some v → ZOk P S σ st w t cs v
  | 0, t, cs, v, h => by simp [zeroAt] at h
  | n + 1, t, cs, v, h => by
    unfold zeroAt at h
    split at h
    · rename_i e hk
      split at h
      · cases h
        exact ⟨rfl, by simp [hasT, hk], by simp [(tk_sl hk).2.1]⟩
      · cases h
    · rename_i hk
      split at h
      · rename_i x
        split at h
        · rename_i z hz
          cases h
          obtain ⟨h1, h2, d, rfl, h3⟩ := zeroOne_rel (P := P) (S := S) (σ := σ) (st := st) (w := w) hz
          refine ⟨h1, ?_, by simp [(tk_one hk).1]⟩
          cases d <;> first
            | exact absurd rfl (h3 _ _)
            | simp [hasT, hk]
        · unfold zeroJ at h
          split at h
          · cases h
            exact ⟨rfl, by simp [hasT, hk], by simp [(tk_one hk).1]⟩
          · split at h
            · rename_i hx
              cases h
              exact ⟨⟨x, rfl, hx⟩, by simp [hasT, hk], by simp [(tk_one hk).1]⟩
            · cases h
      · cases h
    · rename_i m r hk
      split at h
      · rename_i sz hsz
        simp only [Option.map_eq_some_iff] at h
        obtain ⟨vs, h1, rfl⟩ := h
        obtain ⟨css, rfl, g2, g3⟩ := zeroGo_sound (zeroAt_sound n) h1
        refine ⟨mkAgg_rel (by rw [g2]; exact hsz) g3, hasT_mkAgg hk, ?_⟩
        rw [length_flatten', g2, comps_sum hsz]
      · cases h
    · cases h
theorem zeroV_sound {t : TypeId} {v : V} (h : zeroV P t = some v) : ∃ i z, P.info? t = some i ∧ i.zero = some z ∧ ZOk P S σ st w t z.cells.toList v := by
  unfold zeroV at h
  split at h
  · rename_i z hz
    simp only [Option.bind_eq_some_iff] at hz
    obtain ⟨i, hi, hz⟩ := hz
    exact ⟨i, z, hi, hz, zeroAt_sound 9 t _ v h⟩
  · cases h

/-! ### parts put into cells -/
theorem fold_set_list (off : Nat) : ∀ (vs : List Value) (k : Nat) (cells : Array Value), off + k + vs.length ≤ cells.size →
    ((vs.zipIdx k).foldl (fun (cs : Array Value) (x : Value × Nat) => cs.setIfInBounds (off + x.2) x.1) cells).toList = cells.toList.take (off + k) ++ vs ++ cells.toList.drop (off + k + vs.length)
  | [], k, cells, h => by simp
  | v :: vs, k, cells, h => by
    simp only [List.zipIdx_cons, List.foldl_cons]
    have hlt : off + k < cells.size := by simp at h; omega
    rw [fold_set_list off vs (k + 1) _ (by simp at h ⊢; omega)]
    rw [Array.toList_setIfInBounds]
    have e1 : (cells.toList.set (off + k) v).take (off + (k + 1)) = cells.toList.take (off + k) ++ [v] := by
      apply List.ext_getElem?
      intro j
      by_cases hj : j < off + (k + 1)
      · rw [List.getElem?_take_of_lt hj]
        by_cases hj' : j < off + k
        · rw [List.getElem?_append_left (by simp; omega), List.getElem?_take_of_lt hj', List.getElem?_set_ne (by omega)]
        · have : j = off + k := by omega
          subst this
          rw [List.getElem?_append_right (by simp; omega), List.getElem?_set_self (by simpa using hlt)]
          simp [Nat.min_eq_left (Nat.le_of_lt hlt)]
      · rw [List.getElem?_eq_none (by simp; omega), List.getElem?_eq_none (by simp; omega)]
    have e2 : (cells.toList.set (off + k) v).drop (off + (k + 1) + vs.length) = cells.toList.drop (off + k + (v :: vs).length) := by
      rw [List.drop_set_of_lt (by omega)]
      congr 1; simp; omega
    rw [e1, e2]; simp
theorem fold_set (off : Nat) (vs cells : Array Value) (h : off + vs.size ≤ cells.size) :
    (vs.zipIdx.foldl (fun (cs : Array Value) (x : Value × Nat) => cs.setIfInBounds (off + x.2) x.1) cells).toList = cells.toList.take off ++ vs.toList ++ cells.toList.drop (off + vs.size) := by
  rw [← Array.foldl_toList, Array.toList_zipIdx]
  have := fold_set_list off vs.toList 0 cells (by simpa using h)
  simpa using this

theorem fill_cons (place : Nat → Option (Nat × Nat)) (cells : Array Value) (i off size : Nat) (v : Value) (rest : List (Nat × Value)) (hp : place i = some (off, size)) (hs : v.cells.size = size) (hl : off + v.cells.size ≤ cells.size) :
    Instr.fill place cells ((i, v) :: rest) = Instr.fill place (v.cells.zipIdx.foldl (fun cs (c, j) => cs.setIfInBounds (off + j) c) cells) rest := by
  simp only [Instr.fill, hp]
  rw [if_neg (by simp only [Bool.or_eq_true, decide_eq_true_eq, not_or]; exact ⟨fun h => h hs, by omega⟩)]

theorem fill_step {place : Nat → Option (Nat × Nat)} {l : List Nat} {css : List (List Value)} {cells : Array Value} {vs : List V} {i : Nat} {v : V} {val : Value} {e : TypeId} {rest : List (Nat × Value)}
    (hcells : cells.toList = css.flatten) (hmap : css.map List.length = l) (hrel : RelC.rels P S σ st w vs css) (hp : place i = some ((l.take i).sum, szOf P e)) (hi : i < vs.length) (hls : l[i]? = some (szOf P e))
    (ht : hasT P e v = true) (hv : RelV P S σ st w v val) :
    ∃ cells' css', Instr.fill place cells ((i, val) :: rest) = Instr.fill place cells' rest ∧ cells'.toList = css'.flatten ∧ css'.map List.length = l ∧ RelC.rels P S σ st w (setN vs i v) css' := by
  obtain ⟨hc, _⟩ := (hv.n (hasT_tup ht)).cells (hasT_und ht)
  have hlen := hasT_length ht hc
  have hcss := rels_length hrel
  have hil : i < css.length := by omega
  have hci : css[i]? = some css[i] := List.getElem?_eq_getElem hil
  have hcl : css[i].length = szOf P e := by
    rw [← hmap] at hls
    simp only [List.getElem?_map, hci, Option.map_some, Option.some.injEq] at hls
    exact hls
  obtain ⟨g1, g2⟩ := flatten_at hci
  rw [hmap] at g1 g2
  have hsz : cells.size = css.flatten.length := by rw [← hcells]; simp
  have hl1 : val.cells.size = szOf P e := by simpa using hlen
  refine ⟨_, css.set i val.cells.toList, fill_cons place cells i _ _ val rest hp hl1 (by omega), ?_, ?_, ?_⟩
  · have := fold_set (l.take i).sum val.cells cells (by omega)
    rw [this, hcells, flatten_set hci (by omega), hmap]
    congr 3; omega
  · rw [map_length_set hci (by omega)]; exact hmap
  · rw [setN_eq]; exact rels_set hrel hc

theorem setParts_sound {ρ : TypeId → Operand → V} {t : TypeId} {l : List Nat} {place : Nat → Option (Nat × Nat)} {a : Act} (hρ : ∀ t o, RelV P S σ st w (ρ t o) (a.eval o)) (hcomp : comps P t = some l)
    (hp : ∀ i e, compT P t i = some e → i < l.length → place i = some ((l.take i).sum, szOf P e)) : ∀ {parts : List (Nat × Operand)} {vs vs' : List V} {css : List (List Value)} {cells : Array Value}, setParts P ρ t vs parts = some vs' →
    cells.toList = css.flatten → css.map List.length = l → RelC.rels P S σ st w vs css →
    ∃ cells' css', Instr.fill place cells (parts.map fun x => (x.1, a.eval x.2)) = some cells' ∧ cells'.toList = css'.flatten ∧ css'.map List.length = l ∧ RelC.rels P S σ st w vs' css'
  | [], vs, vs', css, cells, h, h1, h2, h3 => by
    simp only [setParts, Option.some.injEq] at h; subst h
    exact ⟨cells, css, rfl, h1, h2, h3⟩
  | (i, o) :: r, vs, vs', css, cells, h, h1, h2, h3 => by
    unfold setParts at h
    split at h
    · rename_i e he
      split at h
      · rename_i hc
        have hlen := rels_length h3
        have hil : i < l.length := by rw [← h2]; simp; omega
        obtain ⟨cells1, css1, g1, g2, g3, g4⟩ := fill_step (rest := r.map fun x => (x.1, a.eval x.2)) h1 h2 h3 (hp i e he hil) hc.1 (comps_at hcomp he hil) hc.2 (hρ e o)
        obtain ⟨cells2, css2, f1, f2, f3, f4⟩ := setParts_sound hρ hcomp hp h g2 g3 g4
        exact ⟨cells2, css2, by simp only [List.map_cons]; rw [g1]; exact f1, f2, f3, f4⟩
      · cases h
    · cases h
theorem setElems_sound {ρ : TypeId → Operand → V} {e : TypeId} {n : Nat} {a : Act} (hρ : ∀ t o, RelV P S σ st w (ρ t o) (a.eval o)) : ∀ {parts : List (Nat × Operand)} {vs vs' : List V} {css : List (List Value)} {cells : Array Value}, setElems P ρ e vs parts = some vs' →
    cells.toList = css.flatten → css.map List.length = List.replicate n (szOf P e) → RelC.rels P S σ st w vs css →
    ∃ cells' css', Instr.fill (fun i => some (i * szOf P e, szOf P e)) cells (parts.map fun x => (x.1, a.eval x.2)) = some cells' ∧ cells'.toList = css'.flatten ∧ css'.map List.length = List.replicate n (szOf P e) ∧ RelC.rels P S σ st w vs' css'
  | [], vs, vs', css, cells, h, h1, h2, h3 => by
    simp only [setElems, Option.some.injEq] at h; subst h
    exact ⟨cells, css, rfl, h1, h2, h3⟩
  | (i, o) :: r, vs, vs', css, cells, h, h1, h2, h3 => by
    unfold setElems at h
    split at h
    · rename_i hc
      have hlen := rels_length h3
      have hn : css.length = n := by have := congrArg List.length h2; simpa using this
      have hil : i < n := by omega
      obtain ⟨cells1, css1, g1, g2, g3, g4⟩ := fill_step (place := fun i => some (i * szOf P e, szOf P e)) (rest := r.map fun x => (x.1, a.eval x.2)) h1 h2 h3
        (by simp only [List.take_replicate, sum_replicate', Nat.min_eq_left (Nat.le_of_lt hil)]) hc.1 (by simp [hil]) hc.2 (hρ e o)
      obtain ⟨cells2, css2, f1, f2, f3, f4⟩ := setElems_sound hρ h g2 g3 g4
      exact ⟨cells2, css2, by simp only [List.map_cons]; rw [g1]; exact f1, f2, f3, f4⟩
    · cases h

/-! ### rows of zeros -/
theorem zeros_list (z : List Value) (n : Nat) (h : 0 < z.length) : ((List.range (n * z.length)).map fun i => z.toArray[i % z.toArray.size]!) = (List.replicate n z).flatten := by
  have hl : ((List.replicate n z).flatten).length = n * z.length := by simp [length_flatten_eq (css := List.replicate n z) (s := z.length) (fun c hc => by rw [List.eq_of_mem_replicate hc])]
  apply List.ext_getElem?
  intro j
  by_cases hj : j < n * z.length
  · have hq : j / z.length < n := Nat.div_lt_of_lt_mul (by rw [Nat.mul_comm]; exact hj)
    have hci : (List.replicate n z)[j / z.length]? = some z := by simp [hq]
    obtain ⟨g1, g2⟩ := flatten_at hci
    have hr := Nat.mod_lt j h
    have := g2 (j % z.length) hr
    rw [take_sum_const (s := z.length) (fun c hc => by rw [List.eq_of_mem_replicate hc]) (by simp; omega)] at this
    rw [Nat.mul_comm, Nat.div_add_mod] at this
    rw [this]
    simp only [List.getElem?_map, List.getElem?_range hj, Option.map_some, List.size_toArray]
    rw [List.getElem?_eq_getElem hr]
    simp [hr]
  · rw [List.getElem?_eq_none (by simp; omega), List.getElem?_eq_none (by rw [hl]; omega)]
theorem zeros_arr (z : Array Value) (n : Nat) (h : 0 < z.size) : ((Array.range (n * z.size)).map (fun i => z[i % z.size]!)).toList = (List.replicate n z.toList).flatten := by
  have := zeros_list z.toList n (by simpa using h)
  simpa using this
theorem rels_replicate {v : V} {c : List Value} (h : RelC P S σ st w v c) : ∀ n, RelC.rels P S σ st w (List.replicate n v) (List.replicate n c)
  | 0 => rfl
  | n + 1 => ⟨c, List.replicate n c, rfl, h, rels_replicate h n⟩
end
end Go.Ev
end
section
set_option linter.unusedVariables false
set_option linter.unusedSimpArgs false
set_option linter.unusedSectionVars false
namespace Go.Ev
open Go.RowKit

section
variable {P : Program} {B0 : Nat} {S : Nat → Prop} {σ : Sig} {st : Store} {w : World}

/-- A row seen anew, nothing written. -/
theorem bump_ok {k : Key} (hI : Inv P B0 S σ st w) (hl : (st k).live = true) :
    Inv P B0 S σ (upd st k ⟨(st k).ver + 1, (st k).e, (st k).vs, true⟩) w ∧ Evo B0 S σ st w S σ (upd st k ⟨(st k).ver + 1, (st k).e, (st k).vs, true⟩) w := by
  have hE : Evo B0 S σ st w S σ (upd st k ⟨(st k).ver + 1, (st k).e, (st k).vs, true⟩) w := by
    refine ⟨Nat.le_refl _, fun _ h => .inl h, fun _ h => h, fun _ _ => rfl, fun k' => ?_, fun k' hv hl' => ?_⟩
    · by_cases hk : k' = k
      · subst hk; simp [upd_same]
      · simp [upd_other _ _ _ hk]
    · by_cases hk : k' = k
      · subst hk; simp [upd_same] at hv
      · rw [upd_other _ _ _ hk] at hl' ⊢
        exact ⟨hl', rfl, rfl⟩
  have hlive : ∀ k', ((upd st k ⟨(st k).ver + 1, (st k).e, (st k).vs, true⟩) k').live = true → (st k').live = true := by
    intro k' h
    by_cases hk : k' = k
    · subst hk; exact hl
    · rw [upd_other _ _ _ hk] at h; exact h
  have he : ∀ k', ((upd st k ⟨(st k).ver + 1, (st k).e, (st k).vs, true⟩) k').e = (st k').e ∧ ((upd st k ⟨(st k).ver + 1, (st k).e, (st k).vs, true⟩) k').vs = (st k').vs := by
    intro k'
    by_cases hk : k' = k
    · subst hk; simp [upd_same]
    · rw [upd_other _ _ _ hk]; exact ⟨rfl, rfl⟩
  refine ⟨⟨hI.base, hI.safe, fun k' h => ?_, fun k1 k2 l1 l2 => hI.inj k1 k2 (hlive _ l1) (hlive _ l2)⟩, hE⟩
  obtain ⟨h2, h3⟩ := hI.own k' (hlive _ h)
  obtain ⟨e1, e2⟩ := he k'
  refine ⟨fun hn => by rw [e1, e2]; exact h2 hn, fun b c hs => ?_⟩
  obtain ⟨g1, g2, g3, o, g4, g5⟩ := h3 b c hs
  refine ⟨g1, g2, g3, o, g4, ?_⟩
  have g6 := Holds.mono hE g5
  unfold Holds at g6 ⊢
  rw [e1, e2]
  exact g6
/-- A new row without elements: no memory. -/
theorem newVirt_ok {k : Key} {e : TypeId} (hI : Inv P B0 S σ st w) (hpos : 0 < szOf P e) :
    Inv P B0 S (updS σ k none) (newBlk st k e []) w ∧ Evo B0 S σ st w S (updS σ k none) (newBlk st k e []) w := by
  have hE : Evo B0 S σ st w S (updS σ k none) (newBlk st k e []) w := by
    refine ⟨Nat.le_refl _, fun _ h => .inl h, fun _ h => h, fun _ _ => rfl, fun k' => ?_, fun k' hv hl => ?_⟩
    · by_cases hk : k' = k
      · subst hk; simp [newBlk, upd_same]
      · simp [newBlk, upd_other _ _ _ hk]
    · by_cases hk : k' = k
      · subst hk; simp [newBlk, upd_same] at hv
      · rw [newBlk, upd_other _ _ _ hk] at hv hl
        rw [newBlk, upd_other _ _ _ hk]
        exact ⟨hl, updS_other _ _ _ hk, rfl⟩
  refine ⟨⟨hI.base, hI.safe, fun k' hl => ?_, fun k1 k2 l1 l2 hne b c b' c' e1 e2 => ?_⟩, hE⟩
  · by_cases hk : k' = k
    · subst hk
      exact ⟨fun _ => ⟨by simp [newBlk, upd_same], by simpa [newBlk, upd_same] using hpos⟩, fun b c h => by simp [updS_same] at h⟩
    · rw [newBlk, upd_other _ _ _ hk] at hl
      obtain ⟨h2, h3⟩ := hI.own k' hl
      refine ⟨fun h => ?_, fun b c h => ?_⟩
      · rw [newBlk, upd_other _ _ _ hk]; rw [updS_other _ _ _ hk] at h; exact h2 h
      · rw [updS_other _ _ _ hk] at h
        obtain ⟨g1, g2, g3, o, g4, g5⟩ := h3 b c h
        refine ⟨g1, g2, g3, o, g4, ?_⟩
        rw [newBlk, upd_other _ _ _ hk]
        exact Holds.mono hE g5
  · by_cases hk1 : k1 = k
    · subst hk1; simp [updS_same] at e1
    · by_cases hk2 : k2 = k
      · subst hk2; simp [updS_same] at e2
      · rw [updS_other _ _ _ hk1] at e1; rw [updS_other _ _ _ hk2] at e2
        rw [newBlk, upd_other _ _ _ hk1] at l1; rw [newBlk, upd_other _ _ _ hk2] at l2
        exact hI.inj k1 k2 l1 l2 hne b c b' c' e1 e2

theorem rels_nil_css {css : List (List Value)} {us : List V} (h : RelC.rels P S σ st w us css) (hu : us = []) : css = [] := by subst hu; exact h

/-- The elements that a slice shows, as they lie. -/
theorem elems_ok {x : V} {e' : TypeId} {new : List V} {xv : Value} (h : elemsOf st x = some (e', new)) (hI : Inv P B0 S σ st w) (hx : RelV P S σ st w x xv) :
    ∃ A c css, xv = .slice A new.length c ∧ RelC.rels P S σ st w new css ∧ (∀ c ∈ css, c.length = szOf P e') ∧ (new = [] ∨ ∃ a, A = some a ∧ ∀ j u, css.flatten[j]? = some u → w.cell? (a.add j) = some u) := by
  unfold elemsOf at h
  split at h
  · rename_i e ds
    cases h
    obtain ⟨A, cap, rfl, hds⟩ := relV_sl hx
    rcases hds with rfl | ⟨b, o, css, rfl, hb, hcc, hcs, hat, hf⟩
    · exact ⟨A, cap, [], rfl, rfl, by simp, .inl rfl⟩
    · exact ⟨_, cap, css, by simp, rels_map hf, hcs, .inr ⟨_, rfl, hat.cell⟩⟩
  · cases h
    have := relV_nils hx; subst this
    exact ⟨_, 0, [], rfl, rfl, by simp, .inl rfl⟩
  · cases h
    obtain ⟨A, rfl⟩ := relV_nila hx
    exact ⟨A, 0, [], rfl, rfl, by simp, .inl rfl⟩
  · rename_i er k ver off len full
    split at h
    · rename_i hc
      obtain ⟨hv, hl, hle⟩ := hc
      cases h
      obtain ⟨A, c, rfl, hlc, hA, hver, hfr⟩ := relV_rs hx
      obtain ⟨g0, gp, g1, g2⟩ := hfr hv.symm hl
      have hlen : (((st k).vs.drop off).take len).length = len := by simp; omega
      rw [hlen]
      have hpos : 0 < szOf P (st k).e := by rw [g0]; exact gp
      obtain ⟨hn, hs⟩ := (hI.own k hl).row hpos
      cases hσ : σ k with
      | none =>
        obtain ⟨rfl, rfl⟩ := g1 hσ
        have : len = 0 := by omega
        subst this
        exact ⟨A, 0, [], rfl, by simp [RelC.rels], by simp, .inl (by simp)⟩
      | some bc =>
        obtain ⟨b, cap⟩ := bc
        obtain ⟨q1, q2, q3⟩ := g2 b cap hσ
        obtain ⟨f1, f2, f3, cur, css, f4, f5, f6, f7, f8, f9, f10⟩ := hs b cap hσ
        refine ⟨A, c, (css.drop off).take len, rfl, rels_take _ (rels_drop _ f10), fun c' hc' => g0 ▸ f9 c' (List.mem_of_mem_drop (List.mem_of_mem_take hc')), ?_⟩
        by_cases hl0 : len = 0
        · subst hl0; exact .inl (by simp)
        · right
          rcases q1 with q1 | rfl
          · omega
          · refine ⟨_, rfl, ?_⟩
            have hcl := rels_length f10
            have hat : cellsAt w b 0 css.flatten := ⟨cur, (st k).e, (0, 0), f4, fun j hj => by rw [Nat.zero_add]; exact cell_of_take f8 hj⟩
            have := drop_take_cells (l := off) (h := off + len) hat f9 (by omega) (by omega)
            rw [List.drop_take, Nat.add_sub_cancel_left, Nat.zero_add] at this
            exact this.cell
    · cases h
  · cases h

/-- The row behind an append that found room. -/
theorem take_splice {L news : List Value} {p : Nat} (h : p ≤ L.length) : (L.take p ++ news ++ L.drop (p + news.length)).take (p + news.length) = L.take p ++ news := by
  apply List.take_left'
  simp; omega
theorem rs_rel {e : TypeId} {k : Key} {ver len b cap : Nat} {S' : Nat → Prop} {σ' : Sig} {st' : Store} {w' : World} (hpos : 0 < szOf P e) (hv : (st' k).ver = ver) (he : (st' k).e = e) (hσ : σ' k = some (b, cap)) (hl : len ≤ cap) :
    RelV P S' σ' st' w' (.rs e k ver 0 len true) (.slice (some ⟨b, 0, none⟩) len cap) := by
  refine RelC.to_v ⟨_, cap, rfl, hl, fun _ => ⟨_, rfl⟩, by omega, fun _ _ => ⟨he, hpos, fun h => (by rw [hσ] at h; cases h), fun b' c' h => ?_⟩⟩ rfl
  rw [hσ] at h
  cases h
  exact ⟨.inr (by simp), by omega, fun _ => by omega⟩

theorem below_drew (w : World) (B : Nat) : Below B w w.drew := ⟨rfl, rfl, rfl, Nat.le_refl _, fun _ _ => rfl⟩

/-- A row that had no room: all elements in a new block. -/
theorem grown_ok {k : Key} {e : TypeId} {i : TypeInfo} {z : Value} {vs : List V} {css : List (List Value)} {olds news : List Value} {need old : Nat} (hI : Inv P B0 S σ st w) (hi : P.info? e = some i) (hz : z.cells.size = i.size) (hpos : 0 < szOf P e)
    (hcss : ∀ c ∈ css, c.length = szOf P e) (hrel : RelC.rels P S σ st w vs css) (hfl : olds ++ news = css.flatten) (hneed : need = vs.length) (hmax : need ≤ maxRow) :
    ∃ σ', Inv P B0 S σ' (newBlk st k e vs) (w.drew.alloc (.cells (olds.toArray ++ news.toArray ++ Builtin.zeroCells z.cells (grownCap w need old e - need)) e)) ∧
      Evo B0 S σ st w S σ' (newBlk st k e vs) (w.drew.alloc (.cells (olds.toArray ++ news.toArray ++ Builtin.zeroCells z.cells (grownCap w need old e - need)) e)) ∧
      Below B0 w (w.drew.alloc (.cells (olds.toArray ++ news.toArray ++ Builtin.zeroCells z.cells (grownCap w need old e - need)) e)) ∧
      RelV P S σ' (newBlk st k e vs) (w.drew.alloc (.cells (olds.toArray ++ news.toArray ++ Builtin.zeroCells z.cells (grownCap w need old e - need)) e)) (.rs e k ((st k).ver + 1) 0 need true)
        (.slice (some ⟨w.heap.size, 0, none⟩) need (grownCap w need old e)) := by
  have hge := grownCap_ge w need old e
  have hmx := grownCap_le_maxLen w need old e (by simp only [maxRow, maxLen] at *; omega)
  have hlen := rels_length hrel
  have hfll : css.flatten.length = need * szOf P e := by rw [length_flatten_eq hcss, hlen, hneed]
  have hE0 : Evo B0 S σ st w S σ st w.drew := ⟨Nat.le_refl _, fun _ h => .inl h, fun _ h => h, fun b _ => rfl, fun _ => Nat.le_refl _, fun _ _ h => ⟨h, rfl, rfl⟩⟩
  obtain ⟨h1, h2, h3⟩ := newBlk_ok (w0 := w) (w := w.drew) (k := k) (e := e) (vs := vs) (css := css) (cur := olds.toArray ++ news.toArray ++ Builtin.zeroCells z.cells (grownCap w need old e - need)) (cap := grownCap w need old e)
    hI rfl (below_drew w B0) hpos hcss (RelC.monos hE0 _ _ hrel)
    (by
      have : (olds.toArray ++ news.toArray).size = need * szOf P e := by rw [← hfll, ← hfl]; simp
      rw [Array.size_append, this, size_zeroCells, hz, ← szOf_info hi, ← Nat.add_mul]
      congr 1; omega)
    (by omega) hmx
    (by
      rw [← hneed, ← hfll, ← hfl]
      simp only [Array.toList_append]
      exact List.take_left' rfl)
  refine ⟨_, h1, hE0.trans h2, h3, ?_⟩
  exact rs_rel hpos (by simp [newBlk, upd_same]) (by simp [newBlk, upd_same]) (by simp [updS_same]) hge

theorem run_firstCells_nil (size len cap : Nat) (A : Option Addr) (w : World) : (Builtin.firstCells size 0 (.slice A len cap)).run P w = .ok #[] w := by
  cases A with
  | none => simp [Builtin.firstCells]
  | some a => simp [Builtin.firstCells, loadCells, loadCellsFrom]
/-- Nothing appended. -/
theorem run_append_zero {t ty e : TypeId} {i : TypeInfo} (hu : P.underlying t = some (.slice e)) (hi : P.info? e = some i) (A X : Option Addr) (len c xc : Nat) (h : len ≤ c) (w : World) :
    (Builtin.append_ #[t, t] ty #[.slice A len c, .slice X 0 xc]).run P w = .ok (.slice A len c) w := by
  cases A <;> simp [Builtin.append_, run_underlying hu, sizeOf, typeInfo, hi, Builtin.lenOf, h, run_firstCells_nil, storeCells]
/-- An append to a slice without capacity. -/
theorem run_append_fresh {t ty e : TypeId} {i : TypeInfo} {z : Value} (hu : P.underlying t = some (.slice e)) (hi : P.info? e = some i) (hz : i.zero = some z) (A : Option Addr) (a : Addr) (m c : Nat) (news : List Value) (hl : news.length = m * i.size)
    (hnews : ∀ j v, news[j]? = some v → w.cell? (a.add j) = some v) (h0 : 0 < m) (hm : m ≤ maxRow) (hb : m * i.bytes ≤ maxRow) :
    (Builtin.append_ #[t, t] ty #[.slice A 0 0, .slice (some a) m c]).run P w = .ok (.slice (some ⟨w.heap.size, 0, none⟩) m (grownCap w m 0 e))
      (w.drew.alloc (.cells (([] : List Value).toArray ++ news.toArray ++ Builtin.zeroCells z.cells (grownCap w m 0 e - m)) e)) := by
  simp only [maxRow] at hm hb
  cases A with
  | none =>
    have := run_append_nil (P := P) w t ty e i z hu hi hz a m c news hl hnews h0 (by omega) (by omega)
    rw [this]; simp
  | some b =>
    have := run_append_grow (P := P) w t ty e i z hu hi hz b 0 0 [] (by simp) (by simp) a m c news hl hnews (by omega) (by omega) (by
      rw [Nat.zero_add]; exact growslice_fits h0 (by omega))
    simpa using this

theorem append_ok {t ty e : TypeId} {env : List V} {a : Act} {lv : Nat} {dst : Option Tmp} {sO xO : Operand} {v : V} {st' : Store} (hI : Inv P B0 S σ st w) (hrel : EnvRel P S σ st w env a.tmps)
    (h : evStore P (evalT P env) lv dst st (.call { callee := .builtin .append, args := #[sO, xO], argTypes := #[t, t] }) = some (v, st')) :
    ∃ val w' S' σ', (Builtin.append_ #[t, t] ty #[a.eval sO, a.eval xO]).run P w = .ok val w' ∧ Inv P B0 S' σ' st' w' ∧ Evo B0 S σ st w S' σ' st' w' ∧ Below B0 w w' ∧ RelV P S' σ' st' w' v val := by
  have hs := evalT_rel hrel t sO
  have hx := evalT_rel hrel t xO
  cases dst with
  | none => simp [evStore] at h
  | some d =>
  simp only [evStore] at h
  split at h
  · rename_i e1 z1 e' new hk hz1 he
    rw [hk] at hz1
    simp only at hz1
    split at h
    · rename_i hc
      obtain ⟨_, rfl, hnl⟩ := hc
      obtain ⟨hu, _, hpos, _⟩ := tk_sl hk
      obtain ⟨X, xc, cssN, hxv, hrelN, hcssN, hcellsN⟩ := elems_ok he hI hx
      obtain ⟨i, z, hi, hz, hzok⟩ := zeroV_sound (S := S) (σ := σ) (st := st) (w := w) hz1
      have hzs : z.cells.size = i.size := by rw [← szOf_info hi]; simpa using hzok.2.2
      have hsz := szOf_info hi
      have hby := bytesOf_info hi
      have hnfl : cssN.flatten.length = new.length * i.size := by rw [length_flatten_eq hcssN, rels_length hrelN, hsz]
      rw [hxv]
      unfold appendTo at h
      split at h
      · -- a nil slice
        rename_i e2 hv2
        obtain ⟨A, hsv⟩ := relV_nilE hv2 hs
        rw [hsv]
        split at h
        · rename_i hc2
          cases h
          by_cases hm : new = []
          · subst hm
            obtain ⟨h1, h2⟩ := newVirt_ok (k := fk st lv d) (e := e') hI hpos
            refine ⟨_, w, S, _, run_append_zero hu hi A X 0 0 xc (Nat.le_refl _) w, h1, h2, Below.refl _ _, RelC.to_v ⟨A, 0, rfl, Nat.le_refl _, fun h => absurd h (by simp), by simp [newBlk, upd_same], fun _ _ => ?_⟩ rfl⟩
            refine ⟨by simp [newBlk, upd_same], hpos, fun _ => ⟨rfl, rfl⟩, fun b c h => ?_⟩
            simp [updS_same] at h
          · rcases hcellsN with h0 | ⟨ad, rfl, hcells⟩
            · exact absurd h0 hm
            · have hpos' : 0 < new.length := List.length_pos_iff.2 hm
              have hrun := run_append_fresh (P := P) (w := w) (ty := ty) hu hi hz A ad new.length xc cssN.flatten hnfl hcells hpos' hnl (by rw [← hby]; exact hc2.2)
              obtain ⟨σ', g1, g2, g3, g4⟩ := grown_ok (k := fk st lv d) (e := e') (z := z) (vs := new) (css := cssN) (olds := []) (news := cssN.flatten) (need := new.length) (old := 0) hI hi hzs hpos hcssN hrelN (by simp) rfl hnl
              exact ⟨_, _, S, σ', hrun, g1, g2, g3, g4⟩
        · cases h
      · split at h
        · -- a row of the store
          rename_i er k ver off len full hv2
          rw [hv2] at hs
          split at h
          · rename_i hc2
            obtain ⟨rfl, hl, rfl, rfl, rfl, rfl, hmx, hbx⟩ := hc2
            cases h
            obtain ⟨A, c, hsv, hlc, hA, hver, hfr⟩ := relV_rs hs
            rw [hsv]
            obtain ⟨g0, gp, g1, g2⟩ := hfr rfl hl
            subst g0
            have hst : upd st k ⟨(st k).ver + 1, (st k).e, (st k).vs ++ new, true⟩ = newBlk st k (st k).e ((st k).vs ++ new) := rfl
            obtain ⟨hn, hsome⟩ := (hI.own k hl).row hpos
            by_cases hm : new = []
            · subst hm
              obtain ⟨h1, h2⟩ := bump_ok hI hl
              refine ⟨_, w, S, σ, run_append_zero hu hi A X _ c xc hlc w, by simpa using h1, by simpa using h2, Below.refl _ _, RelC.to_v ⟨A, c, by simp, by simpa using hlc, by simpa using hA, by simp [upd_same], fun _ _ => ?_⟩ rfl⟩
              refine ⟨by simp [upd_same], hpos, g1, fun b c' h => ?_⟩
              have := g2 b c' h
              simpa [upd_same] using this
            · rcases hcellsN with h0 | ⟨ad, rfl, hcells⟩
              · exact absurd h0 hm
              · have hpos' : 0 < new.length := List.length_pos_iff.2 hm
                cases hσ : σ k with
                | none =>
                  have hvs := hn hσ
                  obtain ⟨_, hc0⟩ := g1 hσ
                  subst hc0
                  have hl0 : (st k).vs.length = 0 := by rw [hvs]; rfl
                  rw [hl0]
                  have hrun := run_append_fresh (P := P) (w := w) (ty := ty) hu hi hz A ad new.length xc cssN.flatten hnfl hcells hpos' hnl (by rw [← hby]; rw [hl0, Nat.zero_add] at hbx; exact hbx)
                  obtain ⟨σ', f1, f2, f3, f4⟩ := grown_ok (k := k) (e := (st k).e) (z := z) (vs := new) (css := cssN) (olds := []) (news := cssN.flatten) (need := new.length) (old := 0) hI hi hzs hpos hcssN hrelN (by simp) rfl hnl
                  rw [hst, hvs]
                  simp only [List.nil_append, Nat.zero_add]
                  exact ⟨_, _, S, σ', hrun, f1, f2, f3, f4⟩
                | some bc =>
                  obtain ⟨b, cap⟩ := bc
                  obtain ⟨q1, q2, q3⟩ := g2 b cap hσ
                  have hcc : c = cap := by have := q3 rfl; omega
                  subst hcc
                  obtain ⟨f1, f2, f3, cur, css, f4, f5, f6, f7, f8, f9, f10⟩ := hsome b c hσ
                  have hcl := rels_length f10
                  have hfl : css.flatten.length = (st k).vs.length * i.size := by rw [length_flatten_eq f9, hcl, hsz]
                  by_cases hroom : (st k).vs.length + new.length ≤ c
                  · -- there is room
                    have hAb : A = some ⟨b, 0 * szOf P (st k).e, none⟩ := by
                      rcases q1 with q1 | q1
                      · omega
                      · exact q1
                    simp only [Nat.zero_mul] at hAb
                    subst hAb
                    have hfit : (st k).vs.length * i.size + cssN.flatten.length ≤ cur.size := by rw [hnfl, f5, hsz, ← Nat.add_mul]; exact Nat.mul_le_mul_right _ hroom
                    have hrun := run_append_room (P := P) w t ty (st k).e i hu hi b (st k).vs.length c cur f4 ad new.length xc cssN.flatten hnfl hcells (one_of_mem (RelC.ones new cssN hrelN)) hroom hfit
                    have htk : cur.toList.take ((st k).vs.length * i.size) = css.flatten := by rw [← hsz]; exact f8
                    obtain ⟨r1, r2, r3⟩ := setRow_ok (k := k) (v' := (st k).ver + 1) (vs' := (st k).vs ++ new) (css' := css ++ cssN) (cur' := (cur.toList.take ((st k).vs.length * i.size) ++ cssN.flatten ++ cur.toList.drop ((st k).vs.length * i.size + cssN.flatten.length)).toArray)
                      hI hpos hl hσ (by omega) (rels_append f10 hrelN) (by
                        intro c' hc'
                        rcases List.mem_append.1 hc' with h | h
                        · exact f9 c' h
                        · exact hcssN c' h)
                      (by
                        rw [← f5]
                        simp only [List.size_toArray, List.length_append, List.length_take, List.length_drop, Array.length_toList]
                        omega)
                      (by simpa using hroom)
                      (by
                        have e1 : ((st k).vs ++ new).length * szOf P (st k).e = (st k).vs.length * i.size + cssN.flatten.length := by
                          rw [hnfl, hsz, List.length_append, Nat.add_mul]
                        rw [e1]
                        show List.take _ (_ ++ _ ++ _) = _
                        rw [take_splice (by rw [Array.length_toList]; omega), htk, List.flatten_append])
                    exact ⟨_, _, S, σ, hrun, r1, r2, r3, rs_rel hpos (by simp [upd_same]) (by simp [upd_same]) hσ hroom⟩
                  · -- no room
                    by_cases hc0 : c = 0
                    · -- no capacity at all
                      subst hc0
                      have hl0 : (st k).vs.length = 0 := by omega
                      have hv0 : (st k).vs = [] := List.eq_nil_of_length_eq_zero hl0
                      have hcs0 : css = [] := List.eq_nil_of_length_eq_zero (by rw [hcl, hl0])
                      subst hcs0
                      rw [hl0]
                      have hrun := run_append_fresh (P := P) (w := w) (ty := ty) hu hi hz A ad new.length xc cssN.flatten hnfl hcells hpos' hnl (by rw [← hby]; rw [hl0, Nat.zero_add] at hbx; exact hbx)
                      obtain ⟨σ', r1, r2, r3, r4⟩ := grown_ok (k := k) (e := (st k).e) (z := z) (vs := new) (css := cssN) (olds := []) (news := cssN.flatten) (need := new.length) (old := 0) hI hi hzs hpos hcssN hrelN (by simp) rfl hnl
                      rw [hst, hv0]
                      simp only [List.nil_append, Nat.zero_add]
                      exact ⟨_, _, S, σ', hrun, r1, r2, r3, r4⟩
                    have holds : ∃ b0, A = some b0 ∧ ∀ j v, css.flatten[j]? = some v → w.cell? (b0.add j) = some v := by
                      rcases q1 with q1 | q1
                      · exact absurd q1 hc0
                      · refine ⟨_, q1, ?_⟩
                        have hat : cellsAt w b 0 css.flatten := ⟨cur, (st k).e, (0, 0), f4, fun j hj => by rw [Nat.zero_add]; exact cell_of_take f8 hj⟩
                        simpa using hat.cell
                    obtain ⟨b0, rfl, holds⟩ := holds
                    have hrun := run_append_grow (P := P) w t ty (st k).e i z hu hi hz b0 (st k).vs.length c css.flatten hfl holds ad new.length xc cssN.flatten hnfl hcells (by omega) (by simp only [maxRow] at hmx; omega)
                      (growslice_fits (by omega) (by simp only [maxRow] at hbx; rw [← hby]; exact hbx))
                    obtain ⟨σ', r1, r2, r3, r4⟩ := grown_ok (k := k) (e := (st k).e) (z := z) (vs := (st k).vs ++ new) (css := css ++ cssN) (olds := css.flatten) (news := cssN.flatten) (need := (st k).vs.length + new.length) (old := c) hI hi hzs hpos
                      (by
                        intro c' hc'
                        rcases List.mem_append.1 hc' with h | h
                        · exact f9 c' h
                        · exact hcssN c' h) (rels_append f10 hrelN) (by simp) (by simp) hmx
                    exact ⟨_, _, S, σ', hrun, r1, r2, r3, r4⟩
          · cases h
        · cases h
    · cases h
  · cases h
end
end Go.Ev
end
section
set_option linter.unusedVariables false
set_option linter.unusedSimpArgs false
set_option linter.unusedSectionVars false
namespace Go.Ev
open Go.RowKit

section
variable {P : Program} {B0 : Nat} {S : Nat → Prop} {σ : Sig} {st : Store} {w : World} {env : List V} {a : Act}

def Ran (P : Program) (B0 : Nat) (S : Nat → Prop) (σ : Sig) (st : Store) (w : World) (r : Result Value) (v : V) (st' : Store) : Prop :=
  ∃ (val : Value) (w' : World) (S' : Nat → Prop) (σ' : Sig), r = .ok val w' ∧ Inv P B0 S' σ' st' w' ∧ Evo B0 S σ st w S' σ' st' w' ∧ Below B0 w w' ∧ RelV P S' σ' st' w' v val
theorem Ran.op {r : Sem Value} {v : V} {st' : Store} (h : Ran P B0 S σ st w (r.run P w) v st') : OpOk P B0 S σ st w ((do pure (.value (← r)) : Sem Next).run P w) v st' := by
  obtain ⟨val, w', S', σ', h1, h2, h3, h4, h5⟩ := h
  exact ⟨val, _, w', S', σ', by simp [h1], .inl rfl, h2, h3, h4, h5⟩
theorem Ran.same {r : Result Value} {v : V} (hI : Inv P B0 S σ st w) (h : ∃ val, r = .ok val w ∧ RelV P S σ st w v val) : Ran P B0 S σ st w r v st := by
  obtain ⟨val, h1, h2⟩ := h
  exact ⟨val, w, S, σ, h1, hI, Evo.refl .., Below.refl _ _, h2⟩

theorem run_zeroValue {t : TypeId} {i : TypeInfo} {z : Value} (hi : P.info? t = some i) (hz : i.zero = some z) (w : World) : (zeroValue t).run P w = .ok z w := by
  simp [zeroValue, typeInfo, hi, hz]

theorem alloc_ok {lv : Nat} {dst : Option Tmp} {t : TypeId} {v : V} {st' : Store} (hI : Inv P B0 S σ st w) (h : evStore P (evalT P env) lv dst st (.alloc t) = some (v, st')) :
    Ran P B0 S σ st w ((Instr.alloc t true (.tuple #[])).run P w) v st' := by
  simp only [evStore] at h
  split at h
  · rename_i d z hz
    cases h
    obtain ⟨i, zv, hi, hzv, hzok⟩ := zeroV_sound (S := S) (σ := σ) (st := st) (w := w) hz
    obtain ⟨σ', h1, h2, h3, h4⟩ := newVar_ok (k := (lv, d)) hI hzok.2.1 hzok.1
    refine ⟨_, _, S, σ', ?_, h1, h2, h3, h4⟩
    simp [Instr.alloc, run_zeroValue hi hzv, newVar, newRow]
  · cases h

theorem box_ok {lv : Nat} {dst : Option Tmp} {t : TypeId} {x : Operand} {v : V} {st' : Store} (hI : Inv P B0 S σ st w) (hrel : EnvRel P S σ st w env a.tmps) (h : evStore P (evalT P env) lv dst st (.box t x) = some (v, st')) :
    Ran P B0 S σ st w ((Instr.box t (a.eval x)).run P w) v st' := by
  have hx := evalT_rel hrel t x
  simp only [evStore] at h
  split at h
  · rename_i d
    split at h
    · rename_i ht
      cases h
      obtain ⟨hc, _⟩ := (hx.n (hasT_tup ht)).cells (hasT_und ht)
      obtain ⟨σ', h1, h2, h3, h4⟩ := newVar_ok (k := (lv, d)) hI ht hc
      refine ⟨_, _, S, σ', ?_, h1, h2, h3, h4⟩
      simp [Instr.box, newVar, newRow]
    · cases h
  · cases h

theorem clear_ok {lv : Nat} {dst : Option Tmp} {sO : Operand} {t ty : TypeId} {v : V} {st' : Store} (hI : Inv P B0 S σ st w) (hrel : EnvRel P S σ st w env a.tmps)
    (h : evStore P (evalT P env) lv dst st (.call { callee := .builtin .clear, args := #[sO], argTypes := #[t] }) = some (v, st')) :
    ∃ val w' S' σ', (Builtin.clear_ #[t] ty #[a.eval sO]).run P w = .ok val w' ∧ Inv P B0 S' σ' st' w' ∧ Evo B0 S σ st w S' σ' st' w' ∧ Below B0 w w' ∧ RelV P S' σ' st' w' v val := by
  have hs := evalT_rel hrel t sO
  simp only [evStore] at h
  split at h
  · rename_i er k ver off len full e hv hk
    rw [hv] at hs
    split at h
    · rename_i z hz
      split at h
      · rename_i hc
        obtain ⟨rfl, hl, rfl, hle⟩ := hc
        cases h
        obtain ⟨hu, _, hpos, _⟩ := tk_sl hk
        obtain ⟨i, zv, hi, hzv, hzok⟩ := zeroV_sound (S := S) (σ := σ) (st := st) (w := w) hz
        obtain ⟨A, c, hsv, hlc, hA, _, hfr⟩ := relV_rs hs
        obtain ⟨g0, gp, g1, g2⟩ := hfr rfl hl
        rw [hsv]
        by_cases h0 : len = 0
        · subst h0
          have est : upd st k ⟨(st k).ver, er, (st k).vs.take off ++ List.replicate 0 z ++ (st k).vs.drop (off + 0), true⟩ = st := by
            funext k'
            by_cases hk' : k' = k
            · subst hk'
              rw [upd_same]
              simp only [List.replicate_zero, List.append_nil, Nat.add_zero, List.take_append_drop, ← g0, ← hl]
            · rw [upd_other _ _ _ hk']
          rw [est]
          refine ⟨.tuple #[], w, S, σ, ?_, hI, Evo.refl .., Below.refl _ _, ⟨[], rfl, rfl⟩⟩
          cases A <;> simp [Builtin.clear_, run_underlying hu]
        · have hvne : (st k).vs ≠ [] := by intro e; rw [e] at hle; simp at hle; omega
          obtain ⟨hnone, hsome⟩ := (hI.own k hl).row (by rw [g0]; exact hpos)
          cases hσ : σ k with
          | none => exact absurd (hnone hσ) hvne
          | some bc =>
            obtain ⟨b, cap⟩ := bc
            obtain ⟨q1, q2, q3, cur, css, q4, q5, q6, q7, q8, q9, q10⟩ := hsome b cap hσ
            obtain ⟨r1, r2, _⟩ := g2 b cap hσ
            have hA : A = some ⟨b, off * szOf P (st k).e, none⟩ := by
              rcases r1 with r1 | r1
              · omega
              · exact r1
            rw [hA]
            have hzl : zv.cells.toList.length = szOf P er := hzok.2.2
            have hzs : zv.cells.size = szOf P er := by simpa using hzl
            have hcells := zeros_arr zv.cells len (by omega)
            have hlen := rels_length q10
            have hrep : ∀ c ∈ List.replicate len zv.cells.toList, c.length = szOf P (st k).e := fun c hc => by rw [List.eq_of_mem_replicate hc, g0]; exact hzl
            have hrl : ((List.replicate len zv.cells.toList).flatten).length = len * szOf P (st k).e := by rw [length_flatten_eq hrep]; simp
            have hFl : css.flatten.length = (st k).vs.length * szOf P (st k).e := by rw [length_flatten_eq q9, hlen]
            have hle2 : (off + len) * szOf P (st k).e ≤ (st k).vs.length * szOf P (st k).e := Nat.mul_le_mul_right _ hle
            have hle3 : (st k).vs.length * szOf P (st k).e ≤ cap * szOf P (st k).e := Nat.mul_le_mul_right _ q6
            rw [Nat.add_mul] at hle2
            have hst := run_storeCells_at P b (off * szOf P (st k).e) (st k).e (List.replicate len zv.cells.toList).flatten 0 cur w q4 (by rw [hrl, q5]; omega) (by
              intro u hu
              rw [List.mem_flatten] at hu
              obtain ⟨c, hc, huc⟩ := hu
              rw [List.eq_of_mem_replicate hc] at huc
              exact RelC.one _ _ hzok.1 u huc)
            simp only [Nat.add_zero] at hst
            have hvl : ((st k).vs.take off ++ List.replicate len z ++ (st k).vs.drop (off + len)).length = (st k).vs.length := by simp; omega
            have hset : RelC.rels P S σ st w ((st k).vs.take off ++ List.replicate len z ++ (st k).vs.drop (off + len)) (css.take off ++ List.replicate len zv.cells.toList ++ css.drop (off + len)) := rels_append (rels_append (rels_take off q10) (rels_replicate hzok.1 len)) (rels_drop (off + len) q10)
            have htd : ∀ n, n ≤ css.length → (css.take n).flatten = css.flatten.take (n * szOf P (st k).e) ∧ (css.drop n).flatten = css.flatten.drop (n * szOf P (st k).e) := by
              intro n hn
              have e1 : css.flatten = (css.take n).flatten ++ (css.drop n).flatten := by rw [← List.flatten_append, List.take_append_drop]
              have e2 : (css.take n).flatten.length = n * szOf P (st k).e := by
                rw [length_flatten_eq (s := szOf P (st k).e) fun c hc => q9 c (List.mem_of_mem_take hc), List.length_take, Nat.min_eq_left hn]
              constructor
              · rw [e1, List.take_left' e2]
              · rw [e1, List.drop_left' e2]
            have hfl : (css.take off ++ List.replicate len zv.cells.toList ++ css.drop (off + len)).flatten = css.flatten.take (off * szOf P (st k).e) ++ (List.replicate len zv.cells.toList).flatten ++ css.flatten.drop (off * szOf P (st k).e + (List.replicate len zv.cells.toList).flatten.length) := by
              rw [List.flatten_append, List.flatten_append, (htd off (by omega)).1, (htd (off + len) (by omega)).2, hrl, Nat.add_mul]
            obtain ⟨s1, s2, s3⟩ := setRow_ok (k := k) (v' := (st k).ver) (vs' := (st k).vs.take off ++ List.replicate len z ++ (st k).vs.drop (off + len)) hI (by rw [g0]; exact hpos) hl hσ (Nat.le_refl _) hset
              (by
                intro c hc
                rcases List.mem_append.1 hc with hc | hc
                · rcases List.mem_append.1 hc with hc | hc
                  · exact q9 c (List.mem_of_mem_take hc)
                  · exact hrep c hc
                · exact q9 c (List.mem_of_mem_drop hc))
              (cur' := (cur.toList.take (off * szOf P (st k).e) ++ (List.replicate len zv.cells.toList).flatten ++ cur.toList.drop (off * szOf P (st k).e + (List.replicate len zv.cells.toList).flatten.length)).toArray)
              (by
                rw [← q5]
                simp only [List.size_toArray, List.length_append, List.length_take, List.length_drop, Array.length_toList, hrl]
                omega)
              (by rw [hvl]; exact q6)
              (by
                rw [hvl, hfl, ← q8]
                refine splice_take ?_ ?_
                · rw [hrl]; omega
                · rw [Array.length_toList]; omega)
            have eg : (⟨(st k).ver, (st k).e, (st k).vs.take off ++ List.replicate len z ++ (st k).vs.drop (off + len), true⟩ : Blk) = ⟨(st k).ver, er, (st k).vs.take off ++ List.replicate len z ++ (st k).vs.drop (off + len), true⟩ := by rw [g0]
            rw [eg] at s1 s2
            refine ⟨.tuple #[], _, S, σ, ?_, s1, s2, s3, ⟨[], rfl, rfl⟩⟩
            obtain ⟨m, rfl⟩ : ∃ m, len = m + 1 := ⟨len - 1, by omega⟩
            simp [Builtin.clear_, run_underlying hu, run_zeroValue hi hzv]
            rw [show (Builtin.zeroCells zv.cells (m + 1)).toList = _ from hcells, hst]
            simp
      · cases h
    · cases h
  · cases h

theorem run_places {fs : List Field} (h : ∀ f ∈ fs, 0 < szOf P f.type) (w : World) : ((fs.mapM fun f => do pure (f.offset, ← sizeOf f.type) : Sem (List (Nat × Nat)))).run P w = .ok (fs.map fun f => (f.offset, szOf P f.type)) w := by
  induction fs with
  | nil => rfl
  | cons f fs ih =>
    rw [List.mapM_cons]
    simp only [Sem.run_bind, run_sizeOf_pos (h f (by simp)), Result.andThen_ok, Sem.run_pure, ih (fun g hg => h g (by simp [hg])), List.map_cons]
theorem run_mapM_arr {α β : Type} (f : α → Sem β) (xs : Array α) (l : List β) (w : World) (h : (xs.toList.mapM f).run P w = .ok l w) : (xs.mapM f).run P w = .ok l.toArray w := by
  have h1 : (Array.toList <$> xs.mapM f) = xs.toList.mapM f := Array.toList_mapM
  rw [← h1] at h
  simp only [Sem.run_map] at h
  cases hr : (xs.mapM f).run P w with
  | ok r w' =>
    rw [hr] at h
    simp only [Result.andThen_ok, Result.ok.injEq] at h
    obtain ⟨rfl, rfl⟩ := h
    rfl
  | halt x w' => rw [hr] at h; simp at h

theorem build_ok {lv : Nat} {dst : Option Tmp} {t : TypeId} {parts : Array (Nat × Operand)} {v : V} {st' : Store} (hI : Inv P B0 S σ st w) (hrel : EnvRel P S σ st w env a.tmps)
    (h : evStore P (evalT P env) lv dst st (.build t parts) = some (v, st')) : Ran P B0 S σ st w ((Instr.build t (parts.map fun (i, x) => (i, a.eval x))).run P w) v st' := by
  simp only [evStore] at h
  split at h
  · rename_i t' zs hz
    split at h
    · rename_i ht
      subst ht
      simp only [Option.map_eq_some_iff] at h
      obtain ⟨vs, hvs, h⟩ := h
      cases h
      simp only [Option.bind_eq_some_iff] at hz
      obtain ⟨z, hz, hap⟩ := hz
      obtain ⟨i, zv, hi, hzv, hzok⟩ := zeroV_sound (S := S) (σ := σ) (st := st) (w := w) hz
      obtain ⟨css, hcs, hcomp, hrl⟩ : ∃ css : List (List Value), zv.cells.toList = css.flatten ∧ comps P t' = some (css.map List.length) ∧ RelC.rels P S σ st w zs css := by
        unfold aggParts at hap
        split at hap
        · cases hap
          obtain ⟨css, g1, g2, g3⟩ := hzok.1
          exact ⟨css, g1, g2, rels_map g3⟩
        · cases hap
          obtain ⟨css, g1, g2, g3⟩ := hzok.1
          exact ⟨css, g1, g2, g3⟩
        · cases hap
      have hρ : ∀ t o, RelV P S σ st w (evalT P env t o) (a.eval o) := fun t o => evalT_rel hrel t o
      have hparts : (parts.map fun (i, x) => (i, a.eval x)).toList = parts.toList.map fun x => (x.1, a.eval x.2) := by simp
      refine Ran.same hI ?_
      rcases comps_cases hcomp with ⟨fs, hu⟩ | ⟨n, e, hu⟩
      · obtain ⟨hl, ho, hs, _⟩ := comps_struct hu hcomp
        obtain ⟨o1, o2⟩ := offsOk_spec _ _ ho
        obtain ⟨cells', css', g1, g2, g3, g4⟩ := setParts_sound (place := fun i => ((fs.toList.map fun f => (f.offset, szOf P f.type)).toArray)[i]?) hρ hcomp (by
          intro i e he hil
          rw [hl] at hil ⊢
          simp at hil
          have hfi : fs.toList[i]? = some fs.toList[i] := List.getElem?_eq_getElem (by simpa using hil)
          have := o2 i _ hfi
          unfold compT compTs at he
          rw [hu, nth_eq] at he
          simp only [List.getElem?_map, hfi, Option.map_some, Option.some.injEq] at he
          simp only [List.getElem?_toArray, List.getElem?_map, hfi, Option.map_some]
          rw [this, he]; simp) hvs hcs rfl hrl
        refine ⟨.agg cells', ?_, ?_⟩
        · unfold Instr.build
          simp only [Sem.run_bind, run_zeroValue hi hzv, run_underlying hu, Result.andThen_ok]
          rw [run_mapM_arr _ fs _ w (run_places o1 w)]
          simp only [Result.andThen_ok, hparts, g1, Sem.run_pure]
        · have hr := mkAgg_rel (t := t') (by rw [g3]; exact hcomp) g4
          have hm : (mkAgg t' vs).isAgg = true := by unfold mkAgg; split <;> rfl
          exact RelN.to_v (.inr (.inl ⟨hm, css'.flatten, by rw [← g2], hr⟩))
      · obtain ⟨hl, hpos, h2, hs⟩ := comps_array hu hcomp
        obtain ⟨cells', css', g1, g2, g3, g4⟩ := setParts_sound (place := fun i => some (i * szOf P e, szOf P e)) hρ hcomp (by
          intro i e' he hil
          rw [hl] at hil ⊢
          simp at hil
          unfold compT compTs at he
          rw [hu, nth_eq] at he
          simp [List.getElem?_replicate, hil] at he
          subst he
          rw [List.take_replicate, sum_replicate', Nat.min_eq_left (by omega)]) hvs hcs rfl hrl
        refine ⟨.agg cells', ?_, ?_⟩
        · unfold Instr.build
          simp only [Sem.run_bind, run_zeroValue hi hzv, run_underlying hu, Result.andThen_ok, run_sizeOf_pos hpos, hparts, g1, Sem.run_pure]
        · have hr := mkAgg_rel (t := t') (by rw [g3]; exact hcomp) g4
          have hm : (mkAgg t' vs).isAgg = true := by unfold mkAgg; split <;> rfl
          exact RelN.to_v (.inr (.inl ⟨hm, css'.flatten, by rw [← g2], hr⟩))
    · cases h
  · cases h

theorem buildSlice_ok {lv : Nat} {dst : Option Tmp} {t : TypeId} {len : Nat} {parts : Array (Nat × Operand)} {v : V} {st' : Store} (hI : Inv P B0 S σ st w) (hrel : EnvRel P S σ st w env a.tmps)
    (h : evStore P (evalT P env) lv dst st (.buildSlice t len parts) = some (v, st')) : Ran P B0 S σ st w ((Instr.buildSlice t len (parts.map fun (i, x) => (i, a.eval x))).run P w) v st' := by
  simp only [evStore] at h
  split at h
  · rename_i d e hk
    split at h
    · rename_i z hz
      split at h
      · rename_i hc
        split at h
        · rename_i vs hvs
          cases h
          obtain ⟨hu, _, hpos, _⟩ := tk_sl hk
          obtain ⟨i, zv, hi, hzv, hzok⟩ := zeroV_sound (S := S) (σ := σ) (st := st) (w := w) hz
          have hρ : ∀ t o, RelV P S σ st w (evalT P env t o) (a.eval o) := fun t o => evalT_rel hrel t o
          have hparts : (parts.map fun (i, x) => (i, a.eval x)).toList = parts.toList.map fun x => (x.1, a.eval x.2) := by simp
          have hzl : zv.cells.toList.length = szOf P e := hzok.2.2
          have hzs : zv.cells.size = szOf P e := by simpa using hzl
          obtain ⟨cells', css', g1, g2, g3, g4⟩ := setElems_sound (n := len) (cells := (Array.range (len * zv.cells.size)).map (fun i => zv.cells[i % zv.cells.size]!)) hρ hvs (zeros_arr zv.cells len (by omega)) (by simp [hzs]) (rels_replicate hzok.1 len)
          have hcl : css'.length = len := by have := congrArg List.length g3; simpa using this
          have hcs : ∀ c ∈ css', c.length = szOf P e := by
            intro c hc'
            have : c.length ∈ css'.map List.length := List.mem_map.2 ⟨c, hc', rfl⟩
            rw [g3] at this
            exact List.eq_of_mem_replicate this
          have hvl := rels_length g4
          have hfl : css'.flatten.length = len * szOf P e := by rw [length_flatten_eq hcs, hcl]
          have hsz : cells'.size = len * szOf P e := by rw [← hfl, ← g2]; simp
          have hlm : len ≤ maxLen := by
            have : len * 1 ≤ len * szOf P e := Nat.mul_le_mul_left _ hpos
            simp only [maxLen]; omega
          obtain ⟨h1, h2, h3⟩ := newBlk_ok (k := fk st lv d) (e := e) (vs := vs) (css := css') (cur := cells') (cap := len) hI rfl (Below.refl _ _) hpos hcs g4 hsz (by omega) hlm (by
            rw [g2, List.take_of_length_le (by rw [hfl, ← hvl, hcl]; exact Nat.le_refl _)])
          refine ⟨_, _, S, _, ?_, h1, h2, h3, rs_rel (b := w.heap.size) (cap := len) hpos (by simp [newBlk, upd_same]) (by simp [newBlk, upd_same]) (by simp [updS_same]) (Nat.le_refl _)⟩
          unfold Instr.buildSlice
          simp only [Sem.run_bind, run_underlying hu, Result.andThen_ok, run_sizeOf_pos hpos]
          rw [if_neg (by omega)]
          by_cases hne : len * szOf P e = 0
          · have hl0 : len = 0 := by
              rcases Nat.eq_zero_or_pos len with h | h
              · exact h
              · have := Nat.mul_pos h hpos; omega
            subst hl0
            simp only [Sem.run_bind, Sem.run_pure, Result.andThen_ok, hne, if_true]
            have e0 : ((Array.range 0).map fun i => (#[] : Array Value)[i % (#[] : Array Value).size]!) = (Array.range (0 * zv.cells.size)).map fun i => zv.cells[i % zv.cells.size]! := by simp
            rw [e0]
            simp only [hparts, g1]
            simp [newRow]
          simp only [Sem.run_bind, Sem.run_pure, Result.andThen_ok, hne, if_false, run_zeroValue hi hzv]
          rw [← hzs] at g1 ⊢
          simp only [hparts, g1]
          simp [newRow]
        · cases h
      · cases h
    · cases h
  · cases h

theorem makeSlice_ok {lv : Nat} {dst : Option Tmp} {t : TypeId} {l c : Operand} {v : V} {st' : Store} (hI : Inv P B0 S σ st w) (hrel : EnvRel P S σ st w env a.tmps)
    (h : evStore P (evalT P env) lv dst st (.makeSlice t l c) = some (v, st')) : Ran P B0 S σ st w ((Instr.makeSlice t (a.eval l) (a.eval c)).run P w) v st' := by
  have hl := evalT_rel hrel 0 l
  have hc := evalT_rel hrel 0 c
  simp only [evStore] at h
  split at h
  · rename_i d e n m hk hv1 hv2
    rw [hv1] at hl; rw [hv2] at hc
    rw [relV_int hl, relV_int hc]
    split at h
    · rename_i z hz
      split at h
      · rename_i hq
        cases h
        obtain ⟨h0, hnm, hb, hm⟩ := hq
        simp only [maxRow] at hb hm
        obtain ⟨hu, _, hpos, _⟩ := tk_sl hk
        obtain ⟨i, zv, hi, hzv, hzok⟩ := zeroV_sound (S := S) (σ := σ) (st := st) (w := w) hz
        have hby := bytesOf_info hi
        have hzl : zv.cells.toList.length = szOf P e := hzok.2.2
        have hzs : zv.cells.size = szOf P e := by simpa using hzl
        have w1 : IntKind.i64.wrap n = n := IntWalk.i64_in n (by omega)
        have w2 : IntKind.i64.wrap m = m := IntWalk.i64_in m (by omega)
        have hbi : (i.bytes : Int) * m ≤ 281474976710656 := by
          have e1 : ((m.toNat * i.bytes : Nat) : Int) ≤ 140737488355328 := by rw [← hby]; generalize m.toNat * P.bytesOf e = q at hb ⊢; omega
          have e2 : ((m.toNat * i.bytes : Nat) : Int) = m * i.bytes := by rw [Int.natCast_mul, Int.toNat_of_nonneg (by omega)]
          rw [Int.mul_comm]; omega
        have hcells : (Array.map (fun x => (if m.toNat * szOf P e = 0 then (#[] : Array Value) else zv.cells)[x % (if m.toNat * szOf P e = 0 then (#[] : Array Value) else zv.cells).size]!) (Array.range (m.toNat * szOf P e))).toList = (List.replicate m.toNat zv.cells.toList).flatten := by
          by_cases hm0 : m.toNat * szOf P e = 0
          · have : m.toNat = 0 := by rcases Nat.mul_eq_zero.1 hm0 with h | h <;> omega
            simp [this]
          · rw [if_neg hm0]
            have := zeros_arr zv.cells m.toNat (by omega)
            rw [hzs] at this ⊢
            exact this
        generalize hcur : Array.map (fun x => (if m.toNat * szOf P e = 0 then (#[] : Array Value) else zv.cells)[x % (if m.toNat * szOf P e = 0 then (#[] : Array Value) else zv.cells).size]!) (Array.range (m.toNat * szOf P e)) = cur at hcells
        have hcs : ∀ k, ∀ c ∈ List.replicate k zv.cells.toList, c.length = szOf P e := fun k c hc => by rw [List.eq_of_mem_replicate hc]; exact hzl
        have hsz : cur.size = m.toNat * szOf P e := by
          have := congrArg List.length hcells
          rw [length_flatten_eq (hcs _)] at this
          simpa using this
        obtain ⟨h1, h2, h3⟩ := newBlk_ok (k := fk st lv d) (e := e) (vs := List.replicate n.toNat z) (css := List.replicate n.toNat zv.cells.toList) (cur := cur) (cap := m.toNat) hI rfl (Below.refl _ _) hpos (hcs _) (rels_replicate hzok.1 _) hsz
          (by simp; omega) (by simp only [maxLen]; omega) (by
            rw [hcells]
            have e1 : (List.replicate m.toNat zv.cells.toList) = List.replicate n.toNat zv.cells.toList ++ List.replicate (m.toNat - n.toNat) zv.cells.toList := by
              rw [List.replicate_append_replicate]; congr 1; omega
            rw [e1, List.flatten_append]
            exact List.take_left' (by rw [length_flatten_eq (hcs _)]; simp))
        refine ⟨_, _, S, _, ?_, h1, h2, h3, rs_rel (b := w.heap.size) (cap := m.toNat) hpos (by simp [newBlk, upd_same]) (by simp [newBlk, upd_same]) (by simp [updS_same]) (by omega)⟩
        unfold Instr.makeSlice
        simp only [Sem.run_bind, run_underlying hu, Result.andThen_ok, asInt, asIntOf, Sem.run_pure, typeInfo, run_program, hi, w1, w2]
        have hg : ¬ ((decide (m < 0) || decide (↑i.bytes * m > 2 ^ 48) || decide (n < 0) || decide (n > m)) = true) := by
          simp only [Bool.or_eq_true, decide_eq_true_eq]
          omega
        rw [if_neg hg]
        simp only [Sem.run_bind, run_askRoom, run_sizeOf_pos hpos, Result.andThen_ok]
        subst hcur
        by_cases hm0 : m.toNat * szOf P e = 0
        · simp only [hm0, if_true, Sem.run_bind, Sem.run_pure, Result.andThen_ok]
          simp [newRow]
        · simp only [hm0, if_false, Sem.run_bind, Sem.run_pure, Result.andThen_ok, run_zeroValue hi hzv]
          simp [newRow]
      · cases h
    · cases h
  · cases h
end
end Go.Ev
end
section
set_option linter.unusedVariables false
set_option linter.unusedSimpArgs false
set_option linter.unusedSectionVars false
namespace Go.Ev
open Go.RowKit

section
variable {P : Program} {B0 : Nat} {S : Nat → Prop} {σ : Sig} {st : Store} {w : World} {env : List V} {a : Act}

theorem mapT_spec {t k e : TypeId} (h : mapT P t = some (k, e)) : P.underlying t = some (.map k e) := by
  unfold mapT at h
  split at h
  · rename_i hu; cases h; exact hu
  · cases h
/-- The model's value of a key. -/
def keyV : D → Value
  | .int k n => .int k n
  | .bool b => .bool b
  | .str s => .string s
  | _ => .tuple #[]
theorem keyOk_desc {kt : TypeId} {q : D} (h : keyOk (ek P kt) q = true) : ∃ d, P.underlying kt = some d ∧
    ((∃ k, d = .int k) ∧ (∃ k n, q = .int k n) ∨ d = .bool ∧ (∃ b, q = .bool b) ∨ d = .string ∧ ∃ s, q = .str s) := by
  unfold ek at h
  split at h
  · rename_i k hu; cases q <;> simp [keyOk] at h; exact ⟨_, hu, .inl ⟨⟨_, rfl⟩, _, _, rfl⟩⟩
  · rename_i hu; cases q <;> simp [keyOk] at h; exact ⟨_, hu, .inr (.inl ⟨rfl, _, rfl⟩)⟩
  · rename_i hu; cases q <;> simp [keyOk] at h; exact ⟨_, hu, .inr (.inr ⟨rfl, _, rfl⟩)⟩
  · simp [keyOk] at h
  · split at h <;> simp [keyOk] at h
  · simp [keyOk] at h
theorem keyV_rel {q : D} {val : Value} (hq : (∃ k n, q = .int k n) ∨ (∃ b, q = .bool b) ∨ ∃ s, q = .str s) (h : RelV P S σ st w (.d q) val) : val = keyV q := by
  rcases hq with ⟨k, n, rfl⟩ | ⟨b, rfl⟩ | ⟨s, rfl⟩
  · exact relV_int h
  · exact relV_bool h
  · exact relV_str h
theorem sameK_sound {d : TypeDesc} {x q : D} {b : Bool} {val : Value}
    (hx : (∃ k, d = .int k) ∧ (∃ k n, x = .int k n) ∨ d = .bool ∧ (∃ b, x = .bool b) ∨ d = .string ∧ ∃ s, x = .str s)
    (h : sameK x q = some b) (hv : RelN P S σ st w (.d q) val) : Instr.sameNow d (keyV x) val = some b ∧ (b = true → val = keyV x) := by
  rcases hx with ⟨⟨k, rfl⟩, k', n, rfl⟩ | ⟨rfl, c, rfl⟩ | ⟨rfl, s, rfl⟩
  · cases q <;> simp only [sameK] at h <;> try (cases h; done)
    rename_i k2 m
    split at h
    · rename_i hk
      subst hk
      cases h
      have := relV_int (P := P) (S := S) (σ := σ) (st := st) (w := w) (val := val) hv
      subst this
      refine ⟨by simp only [keyV, Instr.sameNow, if_true]; congr 1, fun hb => ?_⟩
      simp at hb; subst hb; rfl
    · cases h
  · cases q <;> simp only [sameK] at h <;> try (cases h; done)
    cases h
    have := relV_bool (P := P) (S := S) (σ := σ) (st := st) (w := w) (val := val) hv
    subst this
    refine ⟨by simp only [keyV, Instr.sameNow]; congr 1, fun hb => ?_⟩
    simp at hb; subst hb; rfl
  · cases q <;> simp only [sameK] at h <;> try (cases h; done)
    rename_i s'
    cases h
    have := relV_str (P := P) (S := S) (σ := σ) (st := st) (w := w) (val := val) hv
    subst this
    refine ⟨?_, fun hb => ?_⟩
    · simp only [keyV, Instr.sameNow]
      congr 1
      rw [Bool.eq_iff_iff, MapKept.bytes_beq]
      simp
    · simp at hb; subst hb; rfl
theorem mget_find {d : TypeDesc} {x : D}
    (hx : (∃ k, d = .int k) ∧ (∃ k n, x = .int k n) ∨ d = .bool ∧ (∃ b, x = .bool b) ∨ d = .string ∧ ∃ s, x = .str s) :
    ∀ {vs : List V} {es : List MapEntry} {r : Option V} (i : Nat), MapRel P S σ st w vs es → mget vs x = some r →
    (r = none ∧ Instr.findNow d (keyV x) es i = some none) ∨ ∃ v j e, r = some v ∧ Instr.findNow d (keyV x) es i = some (some (i + j, e.val)) ∧ es[j]? = some e ∧ e.key = keyV x ∧ RelN P S σ st w v e.val
  | [], _, r, i, h, hg => by cases h; cases hg; exact .inl ⟨rfl, rfl⟩
  | [_], _, _, _, h, _ => h.elim
  | k :: v :: vs, _, r, i, h, hg => by
    obtain ⟨e, es, rfl, h1, h2, h3⟩ := h
    simp only [mget] at hg
    split at hg
    · rename_i q
      split at hg
      · rename_i hs
        cases hg
        obtain ⟨g1, g2⟩ := sameK_sound hx hs h1
        exact .inr ⟨v, 0, e, rfl, by simp [Instr.findNow, g1], rfl, g2 rfl, h2⟩
      · rename_i hs
        obtain ⟨g1, _⟩ := sameK_sound hx hs h1
        rcases mget_find hx (i + 1) h3 hg with ⟨rfl, g⟩ | ⟨v', j, e', rfl, f1, f2, f3, f4⟩
        · exact .inl ⟨rfl, by simp [Instr.findNow, g1, g]⟩
        · exact .inr ⟨v', j + 1, e', rfl, by simp only [Instr.findNow, g1, f1]; congr 3; omega, by simpa using f2, f3, f4⟩
      · cases hg
    · cases hg
theorem mput_find {d : TypeDesc} {x : D} {u : V} {val : Value}
    (hx : (∃ k, d = .int k) ∧ (∃ k n, x = .int k n) ∨ d = .bool ∧ (∃ b, x = .bool b) ∨ d = .string ∧ ∃ s, x = .str s)
    (hu : RelN P S σ st w u val) (hk : RelN P S σ st w (.d x) (keyV x)) :
    ∀ {vs vs' : List V} {es : List MapEntry} (i : Nat), MapRel P S σ st w vs es → mput vs x u = some vs' →
    (Instr.findNow d (keyV x) es i = some none ∧ ∀ e0 : MapEntry, e0.key = keyV x → e0.val = val → MapRel P S σ st w vs' (es ++ [e0])) ∨
    ∃ j e, Instr.findNow d (keyV x) es i = some (some (i + j, e.val)) ∧ es[j]? = some e ∧ e.key = keyV x ∧ ∀ e0 : MapEntry, e0.key = keyV x → e0.val = val → MapRel P S σ st w vs' (es.set j e0)
  | [], vs', _, i, h, hg => by
    cases h; cases hg
    exact .inl ⟨rfl, fun e0 h1 h2 => ⟨e0, [], rfl, by rw [h1]; exact hk, by rw [h2]; exact hu, rfl⟩⟩
  | [_], _, _, _, h, _ => h.elim
  | k :: v :: vs, vs', _, i, h, hg => by
    obtain ⟨e, es, rfl, h1, h2, h3⟩ := h
    simp only [mput] at hg
    split at hg
    · rename_i q
      split at hg
      · rename_i hs
        cases hg
        obtain ⟨g1, g2⟩ := sameK_sound hx hs h1
        refine .inr ⟨0, e, by simp [Instr.findNow, g1], rfl, g2 rfl, fun e0 f1 f2 => ⟨e0, es, rfl, ?_, by rw [f2]; exact hu, h3⟩⟩
        rw [f1, ← g2 rfl]; exact h1
      · rename_i hs
        obtain ⟨g1, _⟩ := sameK_sound hx hs h1
        cases hp : mput vs x u with
        | none => rw [hp] at hg; cases hg
        | some l =>
          rw [hp] at hg
          cases hg
          rcases mput_find hx hu hk (i + 1) h3 hp with ⟨f1, f2⟩ | ⟨j, e', f1, f2, f3, f4⟩
          · exact .inl ⟨by simp [Instr.findNow, g1, f1], fun e0 q1 q2 => ⟨e, _, rfl, h1, h2, f2 e0 q1 q2⟩⟩
          · exact .inr ⟨j + 1, e', by simp only [Instr.findNow, g1, f1]; congr 3; omega, by simpa using f2, f3, fun e0 q1 q2 => ⟨e, _, rfl, h1, h2, f4 e0 q1 q2⟩⟩
      · cases hg
    · cases hg

theorem relV_mp {k : Key} {ver : Nat} {val : Value} (h : RelV P S σ st w (.mp k ver) val) : ∃ r, val = .map (some r) ∧ ver ≤ (st k).ver ∧ (ver = (st k).ver → (st k).live = true → szOf P (st k).e = 0 ∧ ∃ cap, σ k = some (r, cap)) := by
  obtain ⟨r, h1, h2⟩ := relV_one h rfl (by simp) (by simp)
  simp at h1
  exact ⟨r, h1, h2⟩
theorem maprel_length : ∀ {vs : List V} {es : List MapEntry}, MapRel P S σ st w vs es → vs.length = 2 * es.length
  | [], _, h => by cases h; rfl
  | [_], _, h => h.elim
  | _ :: _ :: vs, _, h => by
    obtain ⟨e, es, rfl, _, _, h3⟩ := h
    simp [maprel_length h3]; omega
/-- A map as it lies. -/
theorem map_at {k : Key} {r cap : Nat} (hI : Inv P B0 S σ st w) (hl : (st k).live = true) (h0 : szOf P (st k).e = 0) (hσ : σ k = some (r, cap)) :
    ∃ es clock, w.heap[r]? = some (.map es clock) ∧ MapRel P S σ st w (st k).vs es.toList := by
  obtain ⟨_, _, _, o, h1, h2⟩ := (hI.own k hl).some r cap hσ
  rcases h2 with ⟨hp, _⟩ | ⟨_, es, clock, rfl, h3, _⟩
  · omega
  · exact ⟨es, clock, h1, h3⟩
theorem map_at_s {k : Key} {r cap : Nat} (hI : Inv P B0 S σ st w) (hl : (st k).live = true) (h0 : szOf P (st k).e = 0) (hσ : σ k = some (r, cap)) :
    ∃ es clock, w.heap[r]? = some (.map es clock) ∧ MapRel P S σ st w (st k).vs es.toList ∧ MapKept.Stamped es clock := by
  obtain ⟨_, _, _, o, h1, h2⟩ := (hI.own k hl).some r cap hσ
  rcases h2 with ⟨hp, _⟩ | ⟨_, es, clock, rfl, h3, h4⟩
  · omega
  · exact ⟨es, clock, h1, h3, h4⟩
theorem sameNow_refl {d : TypeDesc} {k : Value} : Instr.sameNow d k k ≠ some false := by
  unfold Instr.sameNow
  split
  · split <;> simp
  · simp [MapKept.bytes_beq]
  · simp
  · simp
theorem findNow_ne {d : TypeDesc} {k : Value} : ∀ {l : List MapEntry} {i : Nat}, Instr.findNow d k l i = some none → ∀ x ∈ l, x.key ≠ k
  | [], _, _, x, hx => by cases hx
  | e :: es, i, h, x, hx => by
    simp only [Instr.findNow] at h
    split at h
    · cases h
    · rename_i hs
      rcases List.mem_cons.1 hx with rfl | hx
      · intro he
        rw [he] at hs
        exact sameNow_refl hs
      · exact findNow_ne h x hx
    · cases h

theorem makeMap_ok {lv : Nat} {dst : Option Tmp} {t : TypeId} {r : Option Operand} {v : V} {st' : Store} (hI : Inv P B0 S σ st w) (hrel : EnvRel P S σ st w env a.tmps)
    (h : evStore P (evalT P env) lv dst st (.makeMap t r) = some (v, st')) : Ran P B0 S σ st w ((Instr.makeMap t (r.map a.eval)).run P w) v st' := by
  simp only [evStore] at h
  split at h
  · rename_i d q hq
    split at h
    · rename_i hc
      cases h
      obtain ⟨kt, et⟩ := q
      have hu := mapT_spec hq
      obtain ⟨h1, h2, h3⟩ := newMap_ok (k := (lv, d)) hI hc.1
      refine ⟨.map (some w.heap.size), _, S, _, ?_, h1, h2, h3, RelC.to_v ⟨w.heap.size, rfl, by simp [newBlk, upd_same], fun _ _ => ⟨by simpa [newBlk, upd_same] using hc.1, 0, by simp [updS_same]⟩⟩ rfl⟩
      cases r with
      | none => simp [Instr.makeMap]
      | some o =>
        have ho := hc.2
        simp only [Option.map_some, hintOk] at ho
        have hr := evalT_rel hrel 0 o
        split at ho
        · simp_all
        · rename_i k n hv
          rw [Option.some.inj hv] at hr
          simp [Instr.makeMap, run_underlying hu, relV_int hr, asInt, asIntOf]
        · cases ho
    · cases h
  · cases h

theorem zeroW_sound {t : TypeId} {v : V} (h : zeroW P t = some v) : ∃ i z, P.info? t = some i ∧ i.zero = some z ∧ RelN P S σ st w v z ∧ hasT P t v = true := by
  unfold zeroW at h
  split at h
  · rename_i zv z h1 h2
    split at h
    · rename_i hf
      cases h
      obtain ⟨i, z', hi, hz', hok⟩ := zeroV_sound (S := S) (σ := σ) (st := st) (w := w) h2
      have hzz : zv = z' := by simpa [hi, hz'] using h1.symm
      subst hzz
      refine ⟨i, zv, hi, hz', ?_, hok.2.1⟩
      cases hv : v.isAgg
      · rw [hv] at hf
        refine .inr (.inr ⟨hv, ?_⟩)
        have : zv.cells.toList = [zv] := by cases zv <;> first | rfl | (simp [isAggV] at hf)
        rw [← this]; exact hok.1
      · rw [hv] at hf
        cases zv <;> simp [isAggV] at hf
        rename_i cs
        exact .inr (.inl ⟨hv, cs.toList, by simp, hok.1⟩)
    · cases h
  · cases h
theorem lookup_ok {t : TypeId} {x i : Operand} {ok : Bool} {v : V} {st' : Store} (hI : Inv P B0 S σ st w) (hrel : EnvRel P S σ st w env a.tmps)
    (h : evLookup P st t ok (evalT P env 0 x) (evalT P env 0 i) = some (v, st')) : Ran P B0 S σ st w ((Instr.lookup t (a.eval x) (a.eval i) ok).run P w) v st' := by
  have hx := evalT_rel hrel 0 x
  have hi := evalT_rel hrel 0 i
  unfold evLookup at h
  split at h
  · rename_i kt et hmt
    have hu := mapT_spec hmt
    split at h
    · rename_i k ver hv1
      rw [hv1] at hx
      split at h
      · rename_i q hv2
        rw [hv2] at hi
        split at h
        · rename_i hc
          obtain ⟨hver, hl, hko⟩ := hc
          split at h
          · rename_i r hr
            split at h
            · rename_i z hz
              cases h
              obtain ⟨b, hb, _, hfr⟩ := relV_mp hx
              obtain ⟨h0, cap, hσ⟩ := hfr hver.symm hl
              obtain ⟨es, clock, e1, e2⟩ := map_at hI hl h0 hσ
              obtain ⟨d, hd, hdx⟩ := keyOk_desc hko
              have hq : (∃ k n, q = D.int k n) ∨ (∃ b, q = .bool b) ∨ ∃ s, q = .str s := by
                rcases hdx with ⟨_, h⟩ | ⟨_, h⟩ | ⟨_, h⟩
                · exact .inl h
                · exact .inr (.inl h)
                · exact .inr (.inr h)
              have hkv := keyV_rel hq hi
              obtain ⟨ti, zv, hti, hzv, hzr, hzt⟩ := zeroW_sound (S := S) (σ := σ) (st := st) (w := w) hz
              have hchk : (Instr.checkKey es.isEmpty 10000 kt (keyV q)).run P w = .ok () w := by
                unfold Instr.checkKey
                simp only [Sem.run_bind, run_underlying hd, Result.andThen_ok]
                rcases hdx with ⟨⟨_, rfl⟩, _, _, rfl⟩ | ⟨rfl, _, rfl⟩ | ⟨rfl, _, rfl⟩ <;> rfl
              refine Ran.same hI ?_
              rcases mget_find hdx 0 e2 hr with ⟨rfl, g⟩ | ⟨u, j, e, rfl, g1, g2, g3, g4⟩
              · refine ⟨if ok then .tuple #[zv, .bool false] else zv, ?_, ?_⟩
                · simp only [Instr.lookup, Sem.run_bind, run_underlying hu, Result.andThen_ok, hb, MapKept.run_getObj_map e1, Sem.run_pure, hkv, hchk, MapKept.run_findKey hd g, run_zeroValue hti hzv]
                · cases ok
                  · exact hzr.v (hasT_tup hzt)
                  · exact ⟨[zv, .bool false], rfl, _, _, rfl, hzr, _, _, rfl, .inr (.inr ⟨rfl, rfl⟩), rfl⟩
              · rw [Nat.zero_add] at g1
                refine ⟨if ok then .tuple #[e.val, .bool true] else e.val, ?_, ?_⟩
                · simp only [Instr.lookup, Sem.run_bind, run_underlying hu, Result.andThen_ok, hb, MapKept.run_getObj_map e1, Sem.run_pure, hkv, hchk, MapKept.run_findKey hd g1]
                · cases ok
                  · refine g4.v ?_
                    rintro l rfl
                    rcases g4 with h | ⟨h, _⟩ | ⟨_, h⟩
                    · cases h
                    · simp [V.isAgg] at h
                    · exact h.elim
                  · exact ⟨[e.val, .bool true], rfl, _, _, rfl, g4, _, _, rfl, .inr (.inr ⟨rfl, rfl⟩), rfl⟩
            · cases h
          · cases h
        · cases h
      · cases h
    · cases h
  · cases h

theorem arr_modify {es : Array MapEntry} {j : Nat} {e e0 : MapEntry} {f : MapEntry → MapEntry} (h : es.toList[j]? = some e) (hf : f e = e0) : (es.modify j f).toList = es.toList.set j e0 := by
  have hlt : j < es.toList.length := (List.getElem?_eq_some_iff.1 h).1
  apply List.ext_getElem?
  intro i
  rw [Array.getElem?_toList, Array.getElem?_modify, List.getElem?_set, Array.getElem?_toList]
  by_cases hij : j = i
  · subst hij
    rw [Array.getElem?_toList] at h
    simp [h, hf, hlt]
    simpa using hlt
  · simp [hij]
theorem put_ok {t : TypeId} {m k x : Operand} {v : V} {st' : Store} (hI : Inv P B0 S σ st w) (hrel : EnvRel P S σ st w env a.tmps)
    (h : evPut P st t (evalT P env 0 m) (evalT P env 0 k) (fun e => evalT P env e x) = some (v, st')) :
    OpOk P B0 S σ st w ((do Instr.mapUpdate t (a.eval m) (a.eval k) (a.eval x); pure .skip : Sem Next).run P w) v st' := by
  have hm := evalT_rel hrel 0 m
  have hk := evalT_rel hrel 0 k
  unfold evPut at h
  split at h
  · rename_i kt et hmt
    have hu := mapT_spec hmt
    have hx := evalT_rel hrel et x
    split at h
    · rename_i key ver hv1
      rw [hv1] at hm
      split at h
      · rename_i q hv2
        rw [hv2] at hk
        split at h
        · rename_i hc
          obtain ⟨hver, hl, hko, ht⟩ := hc
          split at h
          · rename_i vs' hp
            cases h
            obtain ⟨b, hb, _, hfr⟩ := relV_mp hm
            obtain ⟨h0, cap, hσ⟩ := hfr hver.symm hl
            obtain ⟨es, clock, e1, e2, hst⟩ := map_at_s hI hl h0 hσ
            obtain ⟨d, hd, hdx⟩ := keyOk_desc hko
            have hq : (∃ k n, q = D.int k n) ∨ (∃ b, q = .bool b) ∨ ∃ s, q = .str s := by
              rcases hdx with ⟨_, h⟩ | ⟨_, h⟩ | ⟨_, h⟩
              · exact .inl h
              · exact .inr (.inl h)
              · exact .inr (.inr h)
            have hkv := keyV_rel hq hk
            have hkn : RelN P S σ st w (.d q) (keyV q) := by rw [← hkv]; exact hk
            have hchk : (Instr.checkKey false 10000 kt (keyV q)).run P w = .ok () w := by
              unfold Instr.checkKey
              simp only [Sem.run_bind, run_underlying hd, Result.andThen_ok]
              rcases hdx with ⟨⟨_, rfl⟩, _, _, rfl⟩ | ⟨rfl, _, rfl⟩ | ⟨rfl, _, rfl⟩ <;> rfl
            have hstay : (Instr.keyThatStays (keyV q) (keyV q)).run P w = .ok (keyV q) w := by
              have : Instr.sameBits 10000 (keyV q) (keyV q) = true := by
                rcases hq with ⟨k, n, rfl⟩ | ⟨b, rfl⟩ | ⟨s, rfl⟩
                · simp [keyV, Instr.sameBits]
                · simp [keyV, Instr.sameBits]
                · simp [keyV, Instr.sameBits, MapKept.bytes_beq]
              simp [Instr.keyThatStays, this]
            rcases mput_find hdx (hx.n (hasT_tup ht)) hkn 0 e2 hp with ⟨g1, g2⟩ | ⟨j, e, g1, g2, g3, g4⟩
            · obtain ⟨r1, r2, r3⟩ := setMap_ok (es' := es.push ⟨keyV q, a.eval x, clock⟩) (clock' := clock + 1) hI h0 hl hσ (by rw [Array.toList_push]; exact g2 _ rfl rfl) (MapKept.stamped_push hst (findNow_ne g1))
              refine ⟨undef, .skip, _, S, σ, ?_, .inr ⟨rfl, rfl⟩, r1, r2, r3, ⟨[], rfl, rfl⟩⟩
              simp only [Instr.mapUpdate, Sem.run_bind, run_underlying hu, Result.andThen_ok, hb, MapKept.run_getObj_map e1, hkv, hchk, MapKept.run_findKey hd g1, MapKept.run_setObj_map _ e1, Sem.run_pure]
            · rw [Nat.zero_add] at g1
              have hj : es[j]? = some e := by rw [← Array.getElem?_toList]; exact g2
              obtain ⟨r1, r2, r3⟩ := setMap_ok (es' := es.modify j fun e => { e with key := keyV q, val := a.eval x }) (clock' := clock) hI h0 hl hσ (by rw [arr_modify g2 rfl]; exact g4 _ rfl rfl) (MapKept.stamped_modify hst j _ (fun _ _ => rfl) (fun e' _ he' => by rw [hj] at he'; cases he'; exact g3.symm))
              refine ⟨undef, .skip, _, S, σ, ?_, .inr ⟨rfl, rfl⟩, r1, r2, r3, ⟨[], rfl, rfl⟩⟩
              simp only [Instr.mapUpdate, Sem.run_bind, run_underlying hu, Result.andThen_ok, hb, MapKept.run_getObj_map e1, hkv, hchk, MapKept.run_findKey hd g1, hj, Option.map_some, Option.getD_some, g3, hstay, MapKept.run_setObj_map _ e1, Sem.run_pure]
          · cases h
        · cases h
      · cases h
    · cases h
  · cases h
end
end Go.Ev
end
