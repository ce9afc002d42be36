/- The row of the law CleanStrikes: for every input the call returns true. Over the evaluator's contract of the law's function. No conditions. -/
import Derived.Test.YtnopgienncmcmaaMCleanStrikes10
import Derived.Test.YtnopgienncmcmaaRows
import Derived.WalkKit
import Derived.ProofKit
import Derived.OpenShut
import Derived.ShutString
import Derived.ChangeOld
import Derived.Below
import Derived.SizedLaws
import Derived.Carry
import Derived.WideShapes
import Derived.KernelRfl
section
set_option linter.unusedVariables false
set_option linter.unusedSimpArgs false
namespace Go.Proofs.Ytnopgienncmcmaa.PlCleanStrikes
open Go Go.Ev Go.IntKind Go.Pl Go.Proofs.Ytnopgienncmcmaa.P Go.Proofs.Ytnopgienncmcmaa.PlBndAQuanta Go.Proofs.Ytnopgienncmcmaa.PlField Go.Proofs.Ytnopgienncmcmaa.PlBndQuanta Go.Proofs.Ytnopgienncmcmaa.PlFuseQuanta Go.Proofs.Ytnopgienncmcmaa.PlClean
/-- Two bounds without a common number. -/
def contra (b x : Bd) : Bool := !bad b && (!bad x && (decide (b.1 > x.2.1) || decide (b.2.1 < x.1)))
theorem meet_eq (L : Nat) (b x : Bd) : ∃ r, p_bound_Meet_Quanta L b.1 b.2.1 b.2.2.1 x.1 x.2.1 x.2.2.1 = some r ∧ r.2.2.2 = !contra b x := by
  unfold p_bound_Meet_Quanta
  rw [norm_eq, bnd_s, norm_eq, bnd_s, norm_vague, norm_vague]
  unfold contra
  by_cases h1 : bad b = true
  · have h1' : bad (b.1, b.2.1, b.2.2.1, ()) = true := h1
    rw [h1', cb_t]
    exact ⟨_, rfl, rfl⟩
  · have h1' : bad b = false := by simpa using h1
    have h1'' : bad (b.1, b.2.1, b.2.2.1, ()) = false := h1'
    rw [h1'', cb_f]
    by_cases h2 : bad x = true
    · have h2' : bad (x.1, x.2.1, x.2.2.1, ()) = true := h2
      rw [h2', cb_t]
      exact ⟨_, rfl, rfl⟩
    · have h2' : bad x = false := by simpa using h2
      have h2'' : bad (x.1, x.2.1, x.2.2.1, ()) = false := h2'
      rw [h2'', cb_f, norm_good h1'', norm_good h2'']
      unfold bad at h1'' h2''
      simp only [Bool.or_eq_false_iff, decide_eq_false_iff_not] at h1'' h2''
      by_cases c : b.1 > x.2.1 ∨ b.2.1 < x.1
      · rw [if_pos (by rw [max_v, min_v]; simp only; omega)]
        refine ⟨_, rfl, ?_⟩
        rcases c with c | c <;> simp [c]
      · rw [if_neg (by rw [max_v, min_v]; simp only; omega), of_eq, bnd_s]
        refine ⟨_, rfl, ?_⟩
        have c1 : ¬ b.1 > x.2.1 := fun e => c (.inl e)
        have c2 : ¬ b.2.1 < x.1 := fun e => c (.inr e)
        simp only [c1, c2, decide_false, Bool.or_false, Bool.not_false, Bool.and_false]
def hits : List Bd → List Bd → Nat → List Int
  | b :: r, x :: q, i => if contra b x = true then (i : Int) :: hits r q (i + 1) else hits r q (i + 1)
  | _, _, _ => []
theorem hits_len : ∀ (t q : List Bd) (i : Nat), (hits t q i).length ≤ t.length
  | [], _, _ => by simp [hits]
  | b :: r, [], _ => by simp [hits]
  | b :: r, x :: q, i => by
    have := hits_len r q (i + 1)
    rw [hits]
    split <;> simp <;> omega
theorem struck1 (L : Nat) : ∀ (t q p : List Bd) (s : List Int), t.length = q.length → (s.length + t.length) * 8 ≤ 140737488355328 → p_clean_Struck_l1 L (p ++ q) t (p.length : Int) s = some (s ++ hits t q p.length)
  | [], q, p, s, _, _ => by rw [p_clean_Struck_l1]; simp [hits]
  | b :: r, [], p, s, h, _ => by simp at h
  | b :: r, x :: q, p, s, h, hb => by
    rw [List.length_cons] at hb
    obtain ⟨o, h1, h2⟩ := meet_eq L b x
    have e : ((p.length : Int) + 1) = ((p ++ [x]).length : Int) := by simp
    have e2 : p ++ x :: q = (p ++ [x]) ++ q := by simp
    rw [p_clean_Struck_l1, idx_app, bnd_s, h1, bnd_s, h2, cb_n, cb_v, e, e2, hits]
    by_cases c : contra b x = true
    · rw [if_pos c, if_pos c, rq_t (by rw [maxRow_v]; omega), rq_t (by rw [maxRow_v]; omega), struck1 L r q (p ++ [x]) (s ++ [(p.length : Int)]) (by simpa using h) (by simp; omega)]
      simp
    · rw [if_neg c, if_neg c, struck1 L r q (p ++ [x]) s (by simpa using h) (by omega)]
      simp
abbrev good (b : Bd) : Prop := chk b.1 b.2.1 b.2.2.1 = 0
theorem good_bad {b : Bd} (h : good b) : bad b = b.2.2.1 := by
  obtain ⟨x, y, u, q⟩ := b
  cases u with
  | true => simp [bad]
  | false => exact (chk_known x y).1 h
theorem hit1 (L : Nat) : ∀ (t q p : List Bd) (s : List Int), t.length = q.length → (∀ b ∈ t, good b) → (∀ b ∈ q, good b) → (s.length + t.length) * 8 ≤ 140737488355328 → p_spyref3_Hit_l1 L (p ++ q) t (p.length : Int) s = some (s ++ hits t q p.length)
  | [], q, p, s, _, _, _, _ => by rw [p_spyref3_Hit_l1]; simp [hits]
  | b :: r, [], p, s, h, _, _, _ => by simp at h
  | b :: r, x :: q, p, s, h, g1, g2, hb => by
    rw [List.length_cons] at hb
    have hb1 := good_bad (g1 b (by simp))
    have hb2 := good_bad (g2 x (by simp))
    have e : ((p.length : Int) + 1) = ((p ++ [x]).length : Int) := by simp
    have e2 : p ++ x :: q = (p ++ [x]) ++ q := by simp
    have i1 := hit1 L r q (p ++ [x]) (s ++ [(p.length : Int)]) (by simpa using h) (fun y hy => g1 y (by simp [hy])) (fun y hy => g2 y (by simp [hy])) (by simp; omega)
    have i2 := hit1 L r q (p ++ [x]) s (by simpa using h) (fun y hy => g1 y (by simp [hy])) (fun y hy => g2 y (by simp [hy])) (by omega)
    have l1 : (p ++ [x]).length = p.length + 1 := by simp
    rw [p_spyref3_Hit_l1, idx_app, bnd_s, e, e2, i1, i2, hits, contra, hb1, hb2, rq_t (by rw [maxRow_v]; omega), rq_t (by rw [maxRow_v]; omega), l1]
    cases b.2.2.1
    · cases x.2.2.1
      · simp only [cb_f, Bool.not_false, Bool.true_and]
        by_cases c1 : b.1 > x.2.1
        · simp [c1]
        · by_cases c2 : b.2.1 < x.1
          · simp [c1, c2]
          · simp [c1, c2]
      · simp [cb_t, cb_f]
    · simp [cb_t]
/-! ### all fields -/
theorem struck0 (L : Nat) (hL : 1024 < L) (a : List Bd) : ∀ (l : List Cells) (d : List (List Int)), (∀ c ∈ l, c.2.2.1.length = a.length) → a.length ≤ 1024 → p_clean_Struck_l0 L a l d = some (d ++ l.map fun c => hits c.2.2.1 a 0)
  | [], d, _, _ => by rw [p_clean_Struck_l0]; simp
  | c :: r, d, h, ha => by
    have hc := h c (by simp)
    have := struck1 L c.2.2.1 a [] [] hc (by simp; omega)
    simp only [List.nil_append, List.length_nil, Int.natCast_zero] at this
    rw [p_clean_Struck_l0, rq_t (by omega), this, bnd_s, struck0 L hL a r _ (fun x hx => h x (by simp [hx])) ha]
    simp
theorem hit0 (L : Nat) (hL : 1024 < L) (a : List Bd) (ga : ∀ b ∈ a, good b) : ∀ (l : List Cells) (d : List (List Int)), (∀ c ∈ l, c.2.2.1.length = a.length) → (∀ c ∈ l, ∀ b ∈ c.2.2.1, good b) → a.length ≤ 1024 → d.length + l.length ≤ 8 → p_spyref3_Hit_l0 L a l d = some (d ++ l.map fun c => hits c.2.2.1 a 0)
  | [], d, _, _, _, _ => by rw [p_spyref3_Hit_l0]; simp
  | c :: r, d, h, g, ha, h8 => by
    rw [List.length_cons] at h8
    have hc := h c (by simp)
    have := hit1 L c.2.2.1 a [] [] hc (g c (by simp)) ga (by simp; omega)
    simp only [List.nil_append, List.length_nil, Int.natCast_zero] at this
    rw [p_spyref3_Hit_l0, rq_t (by omega), this, bnd_s, rq_t (by rw [maxRow_v]; omega), rq_t (by rw [maxRow_v]; omega), hit0 L hL a ga r _ (fun x hx => h x (by simp [hx])) (fun x hx => g x (by simp [hx])) ha (by simp; omega)]
    simp
theorem norm_chk (a b : Int) (u : Bool) : chk (norm a b u).1 (norm a b u).2.1 (norm a b u).2.2 = 0 := by
  unfold norm
  by_cases c : chk a b u = 0
  · rw [if_pos c]; exact c
  · rw [if_neg c]; rfl
theorem fuse_chk (l : List Bd) (f : Int) : chk (fuse l f).1 (fuse l f).2.1 (fuse l f).2.2 = 0 := by
  unfold fuse
  split
  · rfl
  · split
    · rfl
    · exact norm_chk _ _ _
theorem cells_good (l : List Cells) (f : Int) : ∀ k i, ∀ b ∈ cells l f i k, good b
  | 0, i, b, h => by simp [cells] at h
  | k + 1, i, b, h => by
    rw [cells, List.mem_cons] at h
    rcases h with rfl | h
    · exact fuse_chk _ _
    · exact cells_good l f k (i + 1) b h
theorem cellsF_good : ∀ {l : List Bd}, cellsF l = 0 → ∀ b ∈ l, good b
  | b :: r, h, x, hx => by
    rw [cellsF] at h
    by_cases q : fault b.1 b.2.1 b.2.2.1 (-1099511627776) 1099511627776 = 0
    · rw [if_pos q] at h
      rcases List.mem_cons.1 hx with rfl | hx
      · rw [fault_chk] at q
        by_cases c : chk x.1 x.2.1 x.2.2.1 = 0
        · exact c
        · rw [if_neg c] at q; exact absurd q c
      · exact cellsF_good h x hx
    · rw [if_neg q] at h; exact absurd h q
theorem fieldF_good {w h : Int} {l : List Bd} (hf : fieldF w h l = 0) : ∀ b ∈ l, good b := by
  unfold fieldF at hf
  split at hf
  · cases hf
  · exact cellsF_good hf
def struck (l : List Cells) (f : Int) : List (List Int) × Int := if (comb l f).2.2.2 = 0 then (l.map fun c => hits c.2.2.1 (comb l f).2.2.1 0, 0) else ([], (comb l f).2.2.2)
theorem comb_ok {l : List Cells} {f : Int} (h : (comb l f).2.2.2 = 0) : l.length ≤ 8 ∧ (∀ c ∈ l, c.2.2.1.length = (comb l f).2.2.1.length) ∧ (∀ c ∈ l, ∀ b ∈ c.2.2.1, good b) ∧ ∀ b ∈ (comb l f).2.2.1, good b := by
  unfold comb at h ⊢
  cases l with
  | nil => exact absurd h (fields_nil f)
  | cons a q =>
    by_cases c : fieldsF (a :: q) f = 0
    · obtain ⟨c1, c2, c3, c4, c5⟩ := fields_0 c
      simp only [if_pos c, cells_len]
      exact ⟨c1, wide_of c2 c3 (by simp), fun x hx => fieldF_good (allF_0 c2 x hx), cells_good _ _ _ _⟩
    · simp only [if_neg c] at h
      exact absurd h c
theorem struck_eq (L : Nat) (hL : L ≤ 4611686018427387904) (h16 : 1024 < L) (l : List Cells) (f : Int) (hs : Small L l) (hl : l.length < L) : p_clean_Struck L l f = some (struck l f) := by
  unfold p_clean_Struck struck
  have hn := comb_len l f
  rw [combine_eq L hL h16 l f hs, bnd_s, cb_d]
  by_cases c : (comb l f).2.2.2 = 0
  · obtain ⟨c1, c2, c3, c4⟩ := comb_ok c
    rw [if_pos c, if_pos c, rq_t (by rw [maxRow_v]; omega), rq_t (by rw [maxRow_v]; omega), rq_t hl, struck0 L h16 _ l [] c2 hn, bnd_s]
    simp
  · rw [if_neg c, if_neg c]
theorem hit_eq (L : Nat) (hL : L ≤ 4611686018427387904) (h16 : 1024 < L) (l : List Cells) (f : Int) (hs : Small L l) (hl : l.length < L) : p_spyref3_Hit L l f = some (struck l f) := by
  unfold p_spyref3_Hit struck
  have hn := comb_len l f
  rw [combined_eq L hL h16 l f hs, bnd_s, cb_d]
  by_cases c : (comb l f).2.2.2 = 0
  · obtain ⟨c1, c2, c3, c4⟩ := comb_ok c
    rw [if_pos c, if_pos c, rq_t hl, hit0 L h16 _ c4 l [] c2 c3 hn (by simpa using c1), bnd_s]
    simp
  · rw [if_neg c, if_neg c]
theorem eqi (L : Nat) (a : List Int) : ∀ (s p : List Int), a = p ++ s → p_slices_Equal_int_l0 L a a s.length (p.length : Int) = some (.inl ())
  | [], p, _ => rfl
  | x :: s, p, h => by
    have := eqi L a s (p ++ [x]) (by simp [h])
    rw [List.length_cons, p_slices_Equal_int_l0, h, idx_app, bnd_s, bnd_s, ← h, show ((p.length : Int) + 1) = ((p ++ [x]).length : Int) by simp, this]
    simp [cb]
theorem eqi_eq (L : Nat) (a : List Int) (hl : a.length < L) (hb : a.length < 4611686018427387904) : p_slices_Equal_int L a a = some true := by
  have := eqi L a a [] rfl
  simp only [List.length_nil, Int.natCast_zero] at this
  unfold p_slices_Equal_int
  rw [decide_eq_true rfl, cb_t, Int.toNat_natCast, rq_t hl, rq_t (by omega), this]; rfl
theorem same_l (L : Nat) (hL : L ≤ 4611686018427387904) (a : List (List Int)) : ∀ (s p : List (List Int)), a = p ++ s → (∀ x ∈ s, x.length < L) → p_spyref3_SameLists_l0 L a s (p.length : Int) = some (.inl ())
  | [], p, _, _ => rfl
  | x :: s, p, h, hs => by
    have := same_l L hL a s (p ++ [x]) (by simp [h]) (fun y hy => hs y (by simp [hy]))
    have hx := hs x (by simp)
    rw [p_spyref3_SameLists_l0, h, idx_app, bnd_s, eqi_eq L x hx (by omega), bnd_s, cb_t, ← h, show ((p.length : Int) + 1) = ((p ++ [x]).length : Int) by simp, this]
theorem lists_eq (L : Nat) (hL : L ≤ 4611686018427387904) (a : List (List Int)) (hl : a.length < L) (hs : ∀ x ∈ a, x.length < L) : p_spyref3_SameLists L a a = some true := by
  have := same_l L hL a a [] rfl hs
  simp only [List.length_nil, Int.natCast_zero] at this
  unfold p_spyref3_SameLists
  rw [decide_eq_true rfl, cb_t, rq_t hl, this]; rfl
theorem top (a0 : List (Int × Int × List (Int × Int × Bool × Unit) × Unit)) (a1 : Int) (h0 : a0.length * 40 ≤ 140737488351232 ∧ ∀ y ∈ a0, ((Lit.int .i64 y.1).wf = true) ∧ ((Lit.int .i64 y.2.1).wf = true) ∧ (y.2.2.1.length * 24 ≤ 140737488351232 ∧ ∀ zy221 ∈ y.2.2.1, ((Lit.int .i64 zy221.1).wf = true) ∧ ((Lit.int .i64 zy221.2.1).wf = true) ∧ (True) ∧ True) ∧ True) (h1 : (Lit.int .i64 a1).wf = true) : ∃ L, L ≤ 4611686018427387904 ∧ p_spylaw3_CleanStrikes L a0 a1 = some true := by
  obtain ⟨L, hL⟩ : ∃ L, L = 4611686018427387904 := ⟨_, rfl⟩
  refine ⟨L, by omega, ?_⟩
  have hs : Small L a0 := fun c hc => by have := (h0.2 c hc).2.2.1.1; omega
  have hl : a0.length < L := by have := h0.1; omega
  unfold p_spylaw3_CleanStrikes
  rw [struck_eq L (by omega) (by omega) a0 a1 hs hl, bnd_s, hit_eq L (by omega) (by omega) a0 a1 hs hl, bnd_s, show p_spylaw3_cleans L = some true from rfl, bnd_s, cb_t, decide_eq_true rfl, cb_t, lists_eq L (by omega) _ ?_ ?_, bnd_s]
  · unfold struck
    split
    · simpa using hl
    · simp; omega
  · intro x hx
    unfold struck at hx
    split at hx
    · obtain ⟨c, hc, rfl⟩ := List.mem_map.1 hx
      have := hits_len c.2.2.1 (comb a0 a1).2.2.1 0
      have := hs c hc
      omega
    · simp at hx
end Go.Proofs.Ytnopgienncmcmaa.PlCleanStrikes
end
section
set_option linter.unusedVariables false
set_option linter.unusedSimpArgs false
namespace Go.Proofs.Ytnopgienncmcmaa.cleanStrikes
open Go.ChangeShapes Go.WideShapes Go.ChangeAt Go.RowKit
open Go.ChangeMaps (open_string shut_string)
open Go.Ev (Opens OpensF arg_agg arg_one weight_at law_calls call_of_ev ArgsOk D Fl)
theorem own : ownKnob Try.prog.godebug = none := by kernel_rfl
theorem laidOut : laidOutB Try.prog = true := by kernel_rfl
set_option maxRecDepth 100000 in
set_option maxHeartbeats 4000000 in
theorem lifted (os : Os) (started : os.Started) (H : Type) (enc : TypeId × Value → H) :
    ReturnsInHanded {} Try.checked os 3 .any (Rows.cleanStrikesSpec.pre6 enc Try.prog Try.f3 Rows.cleanStrikesRow.domain false) (Rows.cleanStrikesSpec.post enc Try.prog Try.f3 false true false false) := by
  refine returnsInHanded_of_change_sized (C := Try.checked) own started (by kernel_rfl) Try.func3
    (ChangeSpec.witness6 (enc := enc) (C := Try.checked) false ⟨#[], #[.slice none 0 0, .int .i64 0], []⟩ 8 (by kernel_rfl) (by kernel_rfl) (by kernel_rfl) (by kernel_rfl)) ?_
  intro W base args ds gs before hval0 hW hcnd hsz0 _
  have hsz : (DataW.weightsEach Try.prog (Try.f3.params.toList ++ Rows.cleanStrikesSpec.plain.varTypes Try.prog) (ds ++ gs)).all (· ≤ reachBytes) = true := hsz0
  have hval : ∀ (j : Nat) t v, Try.f3.params[j]? = some t → args[j]? = some v → Value.okWide Try.prog W .any base t v := hval0
  have hW' := hW
  obtain ⟨p, q, hA0, hV, rfl, hfz, hnd⟩ := hW
  have hA : DataW.TrodAll enc Try.prog W 0 (fun _ => true) true Try.f3.params.toList args.toList ds p := hA0
  rw [Try.params3] at hA hval hsz
  obtain ⟨v0, vs0, d0, ds0, p0, q0, hargs, rfl, rfl, h0, r0⟩ := trodAll_cons hA
  obtain ⟨v1, vs1, d1, ds1, p1, q1, rfl, rfl, rfl, h1, r1⟩ := trodAll_cons r0
  obtain ⟨rfl, rfl, rfl⟩ := trodAll_nil r1
  obtain rfl : args = #[v0, v1] := by cases args; simp_all
  obtain ⟨rfl, rfl⟩ := trodVars_none hV
  obtain ⟨A0, len0, c0, rfl⟩ := okWide_slice Try.underlying22 (hval 0 22 v0 rfl rfl)
  have k0_ := h0
  have lt0 : ∀ x ∈ p0, x.block < W.heap.size := by obtain ⟨m, hm⟩ := k0_; exact DataW.trod_lt m _ _ _ hm
  obtain ⟨fuel0, hf0⟩ := h0
  obtain ⟨a0, hK0, hw0⟩ := (Opens.slice (B := 40) Try.underlying22 (of_decide_eq_true (by kernel_rfl)) (by kernel_rfl) (Opens.struct Try.underlying42 (by kernel_rfl) (OpensF.cons rfl (Opens.int Try.underlying3) (OpensF.cons rfl (Opens.int Try.underlying3) (OpensF.cons rfl (Opens.slice (B := 24) Try.underlying40 (of_decide_eq_true (by kernel_rfl)) (by kernel_rfl) (Opens.struct Try.underlying47 (by kernel_rfl) (OpensF.cons rfl (Opens.int Try.underlying45) (OpensF.cons rfl (Opens.int Try.underlying45) (OpensF.cons rfl (Opens.bool Try.underlying4) OpensF.nil))))) OpensF.nil))))) enc W fuel0 _ _ hf0 (weight_at hsz (j := 0) rfl rfl)
  obtain ⟨a1, rfl, rfl, rfl, hw1⟩ := open_int Try.underlying3 (hval 1 3 v1 rfl rfl) h1
  clear hA0 hval0 hsz0 hsz
  obtain ⟨L, hL, hp⟩ := PlCleanStrikes.top a0 a1 hw0 hw1
  have ht := P.e_spylaw3_CleanStrikes L hL a0 a1 true hp
  have hok : ArgsOk Try.prog (Go.Ev.Old W) W [D.sl 42 (a0.map (fun ya0 : Int × Int × List (Int × Int × Bool × Unit) × Unit => D.agg 42 [.int .i64 ya0.1, .int .i64 ya0.2.1, D.sl 47 (ya0.2.2.1.map (fun yza0221 : Int × Int × Bool × Unit => D.agg 47 [.int .i64 yza0221.1, .int .i64 yza0221.2.1, .bool yza0221.2.2.1]))])), .int .i64 a1] [(.slice A0 len0 c0 : Value), (.int .i64 a1 : Value)] := fun σ st => ⟨_, _, rfl, arg_one rfl hK0, ⟨_, _, rfl, arg_one rfl rfl, rfl⟩⟩
  refine (law_calls Try.func3 (by kernel_rfl) (by kernel_rfl) (call_of_ev Ty.mixed (P.Go_spylaw3_CleanStrikes L hL) (P.To_spylaw3_CleanStrikes L) ht (fun _ h => h) hok)).mono fun e W' ⟨he, bel⟩ => ?_
  subst he
  exact ⟨_, rfl, _, _, _, [], _, [], hW', trodAll_mk1 (shut_bool Try.underlying4 _), (trodAll_cons_mk (Below.trod laidOut (by kernel_rfl) (of_decide_eq_true (by kernel_rfl)) k0_ bel lt0) (trodAll_cons_mk (shut_int Try.underlying3 hw1) trodAll_mk0)), rfl, bel.frame _, fun h => by cases h⟩
theorem over : Rows.cleanStrikesRow.holds Try.pinned (OpenSpec.ofChange Rows.cleanStrikesSpec) :=
  OpenClaim.holds_of_wide 3 Try.f3 rfl rfl rfl rfl rfl rfl rfl ⟨rfl, rfl, rfl, rfl, rfl⟩ rfl rfl rfl rfl rfl (by kernel_rfl) Try.func3 (by kernel_rfl)
    (of_decide_eq_true (by kernel_rfl)) (by unfold Func.isWrapper; first | (rw [if_pos (by decide +kernel)]; kernel_rfl) | (rw [if_neg (by decide +kernel)]; exact ⟨rfl, rfl⟩))
    (fun os started H enc _ => lifted os started H enc)
theorem proved : Rows.CleanStrikesSaid := over
#print axioms proved
end Go.Proofs.Ytnopgienncmcmaa.cleanStrikes
namespace Go.Proofs.Ytnopgienncmcmaa
/-- The row, under a short name, for the claim. -/
theorem cleanStrikes_holds : Rows.CleanStrikesSaid := cleanStrikes.proved
end Go.Proofs.Ytnopgienncmcmaa
end
