/- Parts of one proof, joined: KeysP, KeysB, G94, G132, G40, G44, G10. -/
import Derived.Test.YtnojehmbiceceaaMCatalogRows10
import Derived.Shelf.SlIterI.Sorted
import Derived.Shelf.SlIterI.Collect
import Derived.Shelf.SlIterI.Nil
import Derived.Shelf.Sort.Plain
import Derived.Shelf.Slices.In.SortNone
import Derived.Test.YtnojehmbiceceaaProg
section
set_option linter.unusedVariables false
namespace Go.Proofs.Ytnojehmbiceceaa.KeysP
open Go.Proofs
def laysK_ren : Go.Shelf.Ren := ⟨fun | 7 => 146 | 10 => 200 | n => n, fun | 23 => 206 | 26 => 3 | 3 => 89 | 28 => 217 | 0 => 0 | 27 => 216 | 33 => 258 | 4 => 4 | n => n, fun | n => n⟩
theorem laysK : Go.Proofs.SlLaysZI.n7 Try.prog laysK_ren := {
  mixed := by kernel_rfl
  f7 := ⟨"maps.Keys[spyglass/catalog.state,int,spyglass/api.Row]", by decide, Try.func146.trans (congrArg some (by kernel_rfl))⟩
  f10 := ⟨"maps.Keys[spyglass/catalog.state,int,spyglass/api.Row]$1", by decide, Try.func200.trans (congrArg some (by kernel_rfl))⟩
  t0 := Try.underlying0
  a0 := Try.isAgg0
  z0 := Try.sizeOf0
  v0 := Try.zeroValue0
  t4 := Try.underlying4
  a4 := Try.isAgg4
  z4 := Try.sizeOf4
  v4 := Try.zeroValue4
  t23 := Try.underlying206
  a23 := Try.isAgg206
  z23 := Try.sizeOf206
  v23 := Try.zeroValue206
  t26 := Try.underlying3
  a26 := Try.isAgg3
  z26 := Try.sizeOf3
  v26 := Try.zeroValue3
  t27 := Try.underlying216
  a27 := Try.isAgg216
  z27 := Try.sizeOf216
  v27 := Try.zeroValue216
  t28 := Try.underlying217
  a28 := Try.isAgg217
  z28 := Try.sizeOf217
  v28 := Try.zeroValue217
  t33 := Try.underlying258
  a33 := Try.isAgg258
  z33 := Try.sizeOf258
  v33 := Try.zeroValue258 }

def laysS_ren : Go.Shelf.Ren := ⟨fun | 6 => 145 | 8 => 199 | 9 => 95 | 11 => 241 | 13 => 177 | 12 => 176 | 23 => 224 | 24 => 225 | 14 => 215 | 15 => 216 | 16 => 217 | 17 => 218 | 18 => 219 | 19 => 220 | 20 => 221 | 21 => 222 | 22 => 223 | 25 => 252 | 26 => 253 | 27 => 254 | 28 => 255 | 29 => 256 | 30 => 257 | 31 => 264 | n => n, fun | 26 => 3 | 28 => 217 | 24 => 22 | 0 => 0 | 3 => 3 | 37 => 147 | 48 => 279 | 50 => 133 | 4 => 4 | 40 => 271 | 39 => 270 | 45 => 276 | 5 => 5 | 9 => 9 | 51 => 301 | 55 => 305 | 57 => 311 | 58 => 312 | 33 => 258 | n => n, fun | n => n⟩
theorem laysS : Go.Proofs.SlLaysZI.n6 Try.prog laysS_ren := {
  mixed := by kernel_rfl
  f6 := ⟨"slices.Sorted[int]", by decide, Try.func145.trans (congrArg some (by kernel_rfl))⟩
  f8 := ⟨"slices.Collect[int]", by decide, Try.func199.trans (congrArg some (by kernel_rfl))⟩
  f11 := ⟨"slices.AppendSeq[[]int,int]", by decide, Try.func241.trans (congrArg some (by kernel_rfl))⟩
  t0 := Try.underlying0
  a0 := Try.isAgg0
  z0 := Try.sizeOf0
  v0 := Try.zeroValue0
  t24 := Try.underlying22
  a24 := Try.isAgg22
  z24 := Try.sizeOf22
  v24 := Try.zeroValue22
  t26 := Try.underlying3
  a26 := Try.isAgg3
  z26 := Try.sizeOf3
  v26 := Try.zeroValue3
  t28 := Try.underlying217
  a28 := Try.isAgg217
  z28 := Try.sizeOf217
  v28 := Try.zeroValue217
  i26 := by kernel_rfl }

def lays189_ren : Go.Shelf.Ren := ⟨fun | 189 => 95 | 125 => 177 | 257 => 176 | 128 => 224 | 129 => 225 | 294 => 215 | 295 => 216 | 296 => 217 | 297 => 218 | 298 => 219 | 299 => 220 | 216 => 221 | 300 => 222 | 301 => 223 | 328 => 252 | 329 => 253 | 330 => 254 | 331 => 255 | 332 => 256 | 215 => 257 | 343 => 264 | n => n, fun | 28 => 22 | 3 => 3 | 46 => 147 | 0 => 0 | 51 => 279 | 53 => 133 | 4 => 4 | 183 => 271 | 182 => 270 | 131 => 276 | 5 => 5 | 9 => 9 | 218 => 301 | 222 => 305 | 228 => 311 | 229 => 312 | n => n, fun | n => n⟩
theorem lays189 : Go.Proofs.Lays.n189 Try.prog lays189_ren := {
  mixed := by kernel_rfl
  f125 := Try.func177.trans (congrArg some (by kernel_rfl))
  f128 := Try.func224.trans (congrArg some (by kernel_rfl))
  f129 := Try.func225.trans (congrArg some (by kernel_rfl))
  f189 := Try.func95.trans (congrArg some (by kernel_rfl))
  f215 := Try.func257.trans (congrArg some (by kernel_rfl))
  f216 := Try.func221.trans (congrArg some (by kernel_rfl))
  f257 := Try.func176.trans (congrArg some (by kernel_rfl))
  f294 := Try.func215.trans (congrArg some (by kernel_rfl))
  f295 := Try.func216.trans (congrArg some (by kernel_rfl))
  f296 := Try.func217.trans (congrArg some (by kernel_rfl))
  f297 := Try.func218.trans (congrArg some (by kernel_rfl))
  f298 := Try.func219.trans (congrArg some (by kernel_rfl))
  f299 := Try.func220.trans (congrArg some (by kernel_rfl))
  f300 := Try.func222.trans (congrArg some (by kernel_rfl))
  f301 := Try.func223.trans (congrArg some (by kernel_rfl))
  f328 := Try.func252.trans (congrArg some (by kernel_rfl))
  f329 := Try.func253.trans (congrArg some (by kernel_rfl))
  f330 := Try.func254.trans (congrArg some (by kernel_rfl))
  f331 := Try.func255.trans (congrArg some (by kernel_rfl))
  f332 := Try.func256.trans (congrArg some (by kernel_rfl))
  f343 := Try.func264.trans (congrArg some (by kernel_rfl))
  t0 := Try.underlying0
  a0 := Try.isAgg0
  z0 := Try.sizeOf0
  v0 := Try.zeroValue0
  t3 := Try.underlying3
  a3 := Try.isAgg3
  z3 := Try.sizeOf3
  v3 := Try.zeroValue3
  t4 := Try.underlying4
  a4 := Try.isAgg4
  z4 := Try.sizeOf4
  v4 := Try.zeroValue4
  t5 := Try.underlying5
  a5 := Try.isAgg5
  z5 := Try.sizeOf5
  v5 := Try.zeroValue5
  t9 := Try.underlying9
  a9 := Try.isAgg9
  z9 := Try.sizeOf9
  v9 := Try.zeroValue9
  t28 := Try.underlying22
  a28 := Try.isAgg22
  z28 := Try.sizeOf22
  v28 := Try.zeroValue22
  t46 := Try.underlying147
  a46 := Try.isAgg147
  z46 := Try.sizeOf147
  v46 := Try.zeroValue147
  t51 := Try.underlying279
  a51 := Try.isAgg279
  z51 := Try.sizeOf279
  v51 := Try.zeroValue279
  t53 := Try.underlying133
  a53 := Try.isAgg133
  z53 := Try.sizeOf133
  v53 := Try.zeroValue133
  t131 := Try.underlying276
  a131 := Try.isAgg276
  z131 := Try.sizeOf276
  v131 := Try.zeroValue276
  t182 := Try.underlying270
  a182 := Try.isAgg270
  z182 := Try.sizeOf270
  v182 := Try.zeroValue270
  t183 := Try.underlying271
  a183 := Try.isAgg271
  z183 := Try.sizeOf271
  v183 := Try.zeroValue271
  t218 := Try.underlying301
  a218 := Try.isAgg301
  z218 := Try.sizeOf301
  v218 := Try.zeroValue301
  t222 := Try.underlying305
  a222 := Try.isAgg305
  z222 := Try.sizeOf305
  v222 := Try.zeroValue305
  t228 := Try.underlying311
  a228 := Try.isAgg311
  z228 := Try.sizeOf311
  v228 := Try.zeroValue311
  t229 := Try.underlying312
  a229 := Try.isAgg312
  z229 := Try.sizeOf312
  v229 := Try.zeroValue312 }

theorem sort_ok : Go.Ev.SortOk Try.prog 95 := ⟨⟨_, Try.func95, by kernel_rfl, by kernel_rfl⟩, fun blk off cap zs w hH hb hl => Any.slices_Sort_int lays189 blk off cap zs w hH hb hl, fun p cap w => Any.slices_Sort_int_none lays189 p cap w⟩
theorem sorts (m : Nat) : AnyZI.SortsIn Try.prog laysS_ren Fence.wide m :=
  ⟨fun blk off cap ss W hH hblk hsz => callsIn_wide.2 (Any.slices_Sort_int lays189 blk off cap ss W hH hblk hsz),
   fun p cap W => callsIn_wide.2 (Any.slices_Sort_int_none lays189 p cap W)⟩
theorem isort_eq {ns ss : List Int} (h : ss.Perm ns) : ss.mergeSort (fun x y => decide (x ≤ y)) = Go.Ev.isort ns := by
  rw [mergeSort_of_perm_i (h.trans (Go.Ev.isort_perm ns).symm)]
  refine List.mergeSort_of_pairwise ?_
  exact (Go.Ev.isort_sorted ns).imp fun hab => by simpa using hab
def R0 : Value → Option (DataW Unit × List MemPlace) := fun _ => some (.nil, [])
theorem keys_ok : Go.Ev.SortedOk Try.prog 145 200 3 := ⟨⟨_, Try.func145, by kernel_rfl, by kernel_rfl⟩, fun b r es clock ns w hcell hr hst hkeys hwf hby => by
  have hbw : b < w.heap.size := World.block_lt_of_cell? w _ hcell
  have hu : Try.prog.underlying 3 = some (.int .i64) := by kernel_rfl
  have hlen : es.size = ns.length := by have := congrArg List.length hkeys; simpa using this
  have hkey : ∀ x ∈ es.toList, ∃ n ∈ ns, x.key = Value.int .i64 n := by
    intro x hx
    have : x.key ∈ es.toList.map (·.key) := List.mem_map_of_mem hx
    rw [hkeys] at this
    obtain ⟨n, h1, h2⟩ := List.mem_map.1 this
    exact ⟨n, h1, h2.symm⟩
  have hlit : ∀ n, Go.Ev.inI64 n = true → (Lit.int .i64 n).wf = true := by
    intro n hn
    simp only [Go.Ev.inI64, Bool.and_eq_true, decide_eq_true_eq] at hn
    have h1 : IntKind.i64.min = -9223372036854775808 := by decide
    have h2 : IntKind.i64.max = 9223372036854775807 := by decide
    simp only [Lit.wf, Bool.and_eq_true, decide_eq_true_eq, h1, h2]
    omega
  have hrd : ∀ x ∈ es.toList, ∃ n ∈ ns, x.key = Value.int .i64 n ∧ Go.WideElems.rd Try.prog 3 R0 x = some (.int .i64 n, .nil) := by
    intro x hx
    obtain ⟨n, h1, h2⟩ := hkey x hx
    refine ⟨n, h1, h2, ?_⟩
    simp only [Go.WideElems.rd, h2, Go.Maps.keyOf_int_mk hu (hlit n (hwf n h1)), R0]
    rfl
  have F : Go.WideElems.Fit Try.prog 3 R0 es clock := ⟨by rw [hlen]; have : 17592186044416 ≤ maxLen := (by decide); omega, hst, fun x hx => by obtain ⟨n, _, _, h⟩ := hrd x hx; exact ⟨_, h⟩⟩
  have hown : w.ownsMap Try.prog 3 R0 r es.size (.map ((es.toList.map (Go.WideElems.rg Try.prog 3 R0)).foldr DataW.insert [])) := ⟨es, clock, hr, F, Nat.le_refl _, rfl⟩
  have hperm : (intKeys (H := Unit) (.map ((es.toList.map (Go.WideElems.rg Try.prog 3 R0)).foldr DataW.insert []))).Perm ns := by
    have h1 := (Go.WideShapes.sorted_perm (es.toList.map (Go.WideElems.rg Try.prog 3 R0))).map fun p => _root_.Go.intOf p.1
    refine h1.trans ?_
    have h2 : (es.toList.map (Go.WideElems.rg Try.prog 3 R0)).map (fun p => _root_.Go.intOf p.1) = ns := by
      have h3 : ∀ (l : List MapEntry) (ms : List Int), (∀ x ∈ l, x ∈ es.toList) → l.map (·.key) = ms.map (Value.int .i64) → (l.map (Go.WideElems.rg Try.prog 3 R0)).map (fun p => _root_.Go.intOf p.1) = ms := by
        intro l
        induction l with
        | nil => intro ms _ h; cases ms with
          | nil => rfl
          | cons _ _ => cases h
        | cons x l ih =>
          intro ms hm h
          cases ms with
          | nil => cases h
          | cons m ms =>
            obtain ⟨h4, h5⟩ : x.key = Value.int .i64 m ∧ l.map (·.key) = ms.map (Value.int .i64) := by simpa only [List.map_cons, List.cons.injEq] using h
            obtain ⟨n, _, h6, h7⟩ := hrd x (hm x (by simp))
            have : n = m := by rw [h6] at h4; exact (Value.int.injEq .. ▸ h4 : _ ∧ _).2
            subst this
            have h8 := ih ms (fun y hy => hm y (by simp [hy])) h5
            simp only [List.map_cons, Go.WideElems.rg_of h7, h8]
            rfl
      exact h3 es.toList ns (fun _ h => h) hkeys
    rw [h2]
  have hsize : Go.Maps.size (H := Unit) (.map ((es.toList.map (Go.WideElems.rg Try.prog 3 R0)).foldr DataW.insert [])) = ns.length := by
    rw [Go.Maps.size_eq, DataW.length_sorted, List.length_map, Array.length_toList, hlen]
  have hseq := AnyZI.keys_gives (ρ := laysK_ren) { laysK with } Fence.wide 2 trivial rfl (by omega) b r es.size _ w hbw hcell hown
  have cS := AnyZI.sorted_in laysS Fence.wide 5 trivial trivial trivial trivial rfl (by omega) (sorts _) (enters_of Try.func95 (by kernel_rfl) rfl) 200 #[.pointer (some ⟨b, 0, none⟩)] trivial (enters_of Try.func200 (by kernel_rfl) rfl) _ _ (by rw [hsize]; have : 17592186044416 ≤ maxLen := (by decide); omega) (by rw [hsize]; exact hby) _ hseq
  refine (callsIn_wide (n := 5)).1 (cS.mono ?_)
  rintro ex w' ⟨v, ss, rfl, hS, hrow, hnil, hb⟩
  have hss := hS.trans hperm
  refine ⟨v, rfl, ?_, hb⟩
  rw [isort_eq hss, hss.length_eq] at hrow
  exact hrow, fun b w hcell => by
  have hbw : b < w.heap.size := World.block_lt_of_cell? w _ hcell
  have hseq := AnyZI.keys_gives_nil (ρ := laysK_ren) { laysK with } Fence.wide 2 trivial rfl b w hbw hcell
  have cS := AnyZI.sorted_in laysS Fence.wide 5 trivial trivial trivial trivial rfl (by omega) (sorts _) (enters_of Try.func95 (by kernel_rfl) rfl) 200 #[.pointer (some ⟨b, 0, none⟩)] trivial (enters_of Try.func200 (by kernel_rfl) rfl) _ _ (Nat.zero_le _) (by omega) _ hseq
  refine (callsIn_wide (n := 5)).1 (cS.mono ?_)
  rintro ex w' ⟨v, ss, rfl, hS, hrow, hnil, hb⟩
  have hS' : ss = [] := hS
  subst hS'
  refine ⟨v, rfl, ?_, hb⟩
  have hrow' : w'.ownsRow w.heap.size 3 1 v 0 (([] : List Int).mergeSort (fun x y => decide (x ≤ y)) |>.map encZ) := hrow
  simpa using hrow'⟩
#print axioms keys_ok
end Go.Proofs.Ytnojehmbiceceaa.KeysP
end
section
namespace Go.Proofs.Ytnojehmbiceceaa.P
open Go.Ev
noncomputable def baseL : List (FuncId × Caller) := [(95, sortC Try.prog 95), (145, sortedC Try.prog 145 200 3), (58, cloneK 58), (94, cloneK 94), (124, cloneK 124), (195, cloneK 195)]
noncomputable def base : Caller := pickC baseL
theorem base_ok : CallerOk Try.prog base := pickC_ok (by
  intro q hq
  simp only [baseL, List.mem_cons, List.not_mem_nil, or_false] at hq
  rcases hq with rfl | rfl | rfl | rfl | rfl | rfl
  · exact sortC_ok Go.Proofs.Ytnojehmbiceceaa.KeysP.sort_ok
  · exact sortedC_ok Go.Proofs.Ytnojehmbiceceaa.KeysP.keys_ok
  · exact cloneK_ok Go.Proofs.Ytnojehmbiceceaa.CloneP.clone58
  · exact cloneK_ok Go.Proofs.Ytnojehmbiceceaa.CloneP.clone94
  · exact cloneK_ok Go.Proofs.Ytnojehmbiceceaa.CloneP.clone124
  · exact cloneK_ok Go.Proofs.Ytnojehmbiceceaa.CloneP.clone195)
theorem base_i (xs : List V) (lv : Nat) (st : Store) : base 145 [.fn 200 xs] lv st = sortedC Try.prog 145 200 3 145 [.fn 200 xs] lv st := nr rfl
theorem base_58 (xs : List V) (lv : Nat) (st : Store) : base 58 xs lv st = cloneC xs st := nr rfl
theorem base_94 (xs : List V) (lv : Nat) (st : Store) : base 94 xs lv st = cloneC xs st := nr rfl
theorem base_124 (xs : List V) (lv : Nat) (st : Store) : base 124 xs lv st = cloneC xs st := nr rfl
theorem base_195 (xs : List V) (lv : Nat) (st : Store) : base 195 xs lv st = cloneC xs st := nr rfl
theorem mkeys_map {α : Type} (f : α → D) : ∀ l : List (Int × α), mkeys (mapV f l) = some (l.map (·.1))
  | [] => rfl
  | p :: r => by simp only [mapV, mkeys, mkeys_map f r, List.map_cons]
theorem sortedC_i (kb : Key) (vb i : Nat) (path : List (TypeId × Nat)) (lv : Nat) (st : Store) : sortedC Try.prog 145 200 3 145 [.fn 200 [.p kb vb i path]] lv st =
  if 145 = 145 ∧ 200 = 200 ∧ i = 0 ∧ path = [] ∧ (st kb).ver = vb ∧ (st kb).live = true ∧ szOf Try.prog (st kb).e = 1 ∧ szOf Try.prog 3 = 1 then match (st kb).vs with
    | [.nilm] => some (.d (.sl 3 []), st)
    | [.mp km vm] => if (st km).ver = vm ∧ (st km).live = true then match mkeys (st km).vs with
      | some ns => if ns.all inI64 = true ∧ ns.length * 8 ≤ maxRow then some (.d (.sl 3 ((isort ns).map (D.int .i64))), st) else none
      | none => none
      else none
    | _ => none
    else none := nr rfl
end Go.Proofs.Ytnojehmbiceceaa.P
end
section
set_option linter.unusedVariables false
set_option linter.unusedSimpArgs false
set_option maxRecDepth 100000
set_option maxHeartbeats 4000000
namespace Go.Proofs.Ytnojehmbiceceaa.P
open Go.Ev Go.IntKind Go.Proofs.Ytnojehmbiceceaa Go.Proofs.Ytnojehmbiceceaa.Ty Go.Proofs.Ytnojehmbiceceaa.E
def p_slices_Clone_int (L : Nat) (a0 : List Int) : Option (List Int) := cb (decide (a0.length = 0)) (some a0) (rq (a0.length ≤ maxRow) <| rq ((a0.length) * 8 ≤ maxRow) <| some a0)
attribute [local go_sem] Ev.putR_s Ev.putR_0 Ev.thenO_s Ev.thenO_0 Ev.seqR_n Ev.seqR_e Ev.seqR_r Ev.seqR_0 Ev.blkR_e Ev.blkR_n Ev.blkR_r Ev.blkR_0 Ev.normR_s Ev.normR_0 Ev.outR_r Ev.outR_n Ev.outR_0 Ev.retS_s Ev.retS_0 Ev.pureO_s Ev.pureO_0 Ev.topR_0 Ev.topR_t Ev.topR_t0 Ev.oneL_0 Ev.oneL_s Ev.topR_d Ev.topR_nils Ev.topR_agg Ev.topR_rs Ev.evOp_move Ev.evOp_assign Ev.evOp_pick Ev.evOp_alloc Ev.evOp_box Ev.evOp_build Ev.evOp_buildSlice Ev.evOp_load Ev.evOp_store Ev.evOp_makeMap Ev.evOp_lookup Ev.evOp_mapUpdate Ev.evOp_insert Ev.evOp_nilCheck Ev.evOp_binOp Ev.evOp_unOp Ev.evOp_convert Ev.evOp_makeFunc Ev.evOp_makeSlice Ev.evOp_slice Ev.evOp_fieldAddr Ev.evOp_field Ev.evOp_indexAddr Ev.evOp_index Ev.evOp_extract Ev.evOp_call Ev.evOp_append Ev.evOp_clear Ev.evOp_len Ev.evLen_d Ev.evLen_rs Ev.evLen_nils Ev.evLen_nila Ev.evLen_mp Ev.evOp_min Ev.evOp_max Ev.condR_b Ev.condR_t Ev.evOps_nil Ev.evOps_plain Ev.evOps_guard Ev.runG_eq Ev.skipG_eq Ev.condL_tt Ev.condL_ff Ev.condL_tf Ev.condL_ft Ev.condL_u Ev.condC_t Ev.condC_f Ev.evC_skip Ev.evC_ret Ev.evC_exit Ev.evC_label Ev.evC_region Ev.evC_draw Ev.evC_seq Ev.evC_cond Ev.evC_block Ev.evC_loop Ev.fin_d Ev.fin_nila Ev.fin_nils Ev.fin_agg_ Ev.fin_rs Ev.finS_s Ev.mapO_fin Ev.upd_upd Ev.argv_d Ev.argv_nila Ev.argv_nils Ev.argv_agg Ev.argv_rs Ev.argv_p Ev.fk_low Ev.appendTo_nils Ev.appendTo_nila Ev.appendTo_rs Ev.consV_d Ev.consV_agg Ev.consV_p Ev.consV_rs Ev.consV_nila Ev.consV_nils Ev.consV_fn Ev.consV_und Ev.consV_jk Ev.consV_grown Ev.topR_grown Ev.len_grown Ev.consV_nilm Ev.consV_mp Ev.sameK_i Ev.sameK_s Ev.mget_0 Ev.mget_hit Ev.mget_miss Ev.mput_0 Ev.mput_hit Ev.mput_miss Ev.apartAll Ev.apartL Ev.apartV Ev.freeAll Ev.sel Ev.keyOfV Ev.evLookup Ev.evPut Ev.hintOk Ev.keyOk Ev.consP Ev.lookV Ev.guardV Ev.dstAt Ev.evPure Ev.evStore Ev.evBin Ev.evBinO Ev.evNil Ev.isNilC Ev.evUn Ev.evConv Ev.evSlice Ev.optI Ev.foldI Ev.capsOk Ev.noTup Ev.nth Ev.setN Ev.killAt Ev.pad Ev.V.get Ev.V.put Ev.putD Ev.newBlk Ev.upd Ev.keq Ev.empty Ev.evCall Ev.V.args Ev.argP Ev.callOf Ev.evNilP Ev.isNilP Ev.look Ev.V.view.views Ev.V.view Ev.V.toD Ev.V.toD.V.toDs Ev.V.pure.pures Ev.V.pure Ev.D.flat.flats Ev.D.flat Ev.mkAgg Ev.allD Ev.aggParts Ev.setParts Ev.setElems Ev.getPath Ev.setPath Ev.subL Ev.eqD Ev.eqD.eqDs Ev.and2 Ev.strCut Ev.evalT Ev.constT Ev.evArgs Ev.mask Ev.maskOf Ev.tableOf Ev.compT Ev.resV Ev.retV Ev.mapO Ev.eT_nils Ev.ag_t Ev.ag_f Ev.ag_0 Ev.ag_n Ev.mx_u64 Ev.mx_u32 Ev.mx_u16 Ev.mx_u8 Ev.sg_i64 Ev.sg_i32 Ev.sg_i16 Ev.sg_i8 Ev.sg_u64 Ev.sg_u32 Ev.sg_u16 Ev.sg_u8 Ev.mapE_i Ev.mapV_nil Ev.hT_nilm Ev.mget_map Ev.mput_map Ev.mapV_put Ev.mapV_half Ev.hT_nila Ev.eO_nila Ev.pL_nila Ev.evLen_gl Ev.r_nila Ev.frzO_n Ev.frzO_e Ev.frzO_r Ev.frzO_0 Ev.mb_z Ev.mb_0 Ev.mb_s Ev.frzL_t Ev.frzL_f Ev.frzL_0 Ev.frzT_nils Ev.frzT_rs Ev.frzT_p Ev.frzK_i Ev.keyIn_i Ev.rI_nil Ev.rI_cons Ev.rI_row Ev.rI_app Ev.r_d Ev.r_nils Ev.r_agg Ev.r_rs Ev.r_gl Ev.vw_row Ev.vw_app Ev.appO_s Ev.frzT_gl Ev.allD_gl Ev.killAt_i Ev.tkOne_i Ev.hT_agg Ev.hT_vagg Ev.hT_int Ev.hT_bool Ev.hT_str Ev.hT_sl Ev.hT_ptr Ev.hT_np Ev.hT_p Ev.hT_rs Ev.hT_mp Ev.hT_nils Ev.hT_fn Ev.hT_jk Ev.hT_gl Ev.eO_sl Ev.eO_nils Ev.eO_rs Ev.eT_sl Ev.eT_rs Ev.pL_str Ev.pL_sl Ev.pL_rs Ev.pL_nils Ev.pL_min Ev.pL_max Ev.len_glB Ev.noTup_gl Ev.rowV_len Ev.rowV_nil Ev.rowV_cons Ev.rowV_append Ev.rowV_set Ev.rowV_replicate Ev.nth_row Ev.row_take Ev.row_drop Ev.toDs_row Ev.fin_row Ev.map_row Ev.map_take_ Ev.map_drop_ Ev.Bk_i Ev.GlB_0 Ev.GlB_mk Ev.gl_nil Ev.gl_cons Ev.gl_snoc Ev.gl_setN Ev.appendTo_gl Ev.consV_gl Ev.elems_gl Ev.fin_gl Ev.view_gl Ev.argv_gl Ev.topR_gl Ev.sp_z Ev.sp_0 Ev.sp_s Ev.km_z Ev.km_0 Ev.km_s Ev.beq_toList Ev.nc0 Ev.bq_t Ev.bq_f Ev.bodyN Ev.le_maxRow Int.cast_ofNat_Int IntWalk.i64_in IntWalk.u64_in IntWalk.u8_in beq_self_eq_true Bool.true_beq Bool.false_beq Bool.and_true Bool.true_and Bool.false_and Bool.and_false Bool.and_self Bool.not_true Bool.not_false Bool.not_eq_true cond_true cond_false if_true if_false and_true true_and and_self decide_true decide_false Bool.or_true Bool.true_or Bool.or_false Bool.false_or List.isEmpty List.isEmpty_nil List.size_toArray List.map List.length_map List.length_cons List.length_nil Option.map Option.bind Option.getD Option.isSome List.replicate Bool.false_eq_true implies_true false_implies forall_const Array.toList Array.isEmpty List.append List.nil_append List.cons_append List.drop_zero List.take_length List.take_succ_cons List.take_zero List.take_nil List.getElem?_map List.getElem?_cons_zero List.getElem?_cons_succ List.getElem?_nil List.append_nil eq_self Int.toNat_natCast List.length_append List.length_set Nat.zero_add Nat.add_zero List.length_replicate Nat.sub_zero Option.map_some Option.map_none Int.le_refl Nat.le_refl Int.natCast_nonneg List.map_append
attribute [local go_sem_proc] Nat.reduceAdd Nat.reduceSub Nat.reduceMul Nat.reduceEqDiff Nat.reduceBEq Nat.reduceLT Nat.reduceLeDiff Nat.reducePow Int.reduceToNat Int.reduceLT Int.reduceLE Int.reduceGT Int.reduceGE Int.reduceEq Int.reduceNeg Int.reduceAdd Int.reduceSub Int.reduceMul reduceCtorEq
attribute [local go_sem_proc ↓] reduceIte
noncomputable def G_slices_Clone_int (L : Nat) : Specs := []
noncomputable def T_slices_Clone_int : Table := tableOf [(94, en94)]
theorem Go_slices_Clone_int (L : Nat) (hL : L ≤ 4611686018427387904) : ∀ g s, Ev.look (G_slices_Clone_int L) g = some s → SpecOk Try.prog g s := specs_nil
theorem To_slices_Clone_int (L : Nat) : TableOk Try.prog ((G_slices_Clone_int L).map (·.1)) T_slices_Clone_int := (table_cons Try.func94 (by kernel_rfl) (by kernel_rfl) table_nil)
theorem lk_slices_Clone_int_b (L : Nat) : Ev.look (G_slices_Clone_int L) 145 = none := nr rfl
theorem tb_slices_Clone_int : T_slices_Clone_int 145 = none := nr rfl
theorem bs_slices_Clone_int (L c lv : Nat) (xs : List V) (st : Store) : evFB Try.prog (G_slices_Clone_int L) T_slices_Clone_int L base c 145 xs lv st = base 145 xs lv st := evFB_b _ _ _ _ tb_slices_Clone_int
theorem lk_slices_Clone_int_94 (L : Nat) : Ev.look (G_slices_Clone_int L) 94 = none := nr rfl
theorem in_slices_Clone_int_94 (L c lv : Nat) (xs : List V) (st : Store) : evFB Try.prog (G_slices_Clone_int L) T_slices_Clone_int L base (c + 1) 94 xs lv st = clO (cloneC xs st) (outR Try.prog Try.f94.results.toList (evC Try.prog (G_slices_Clone_int L) (evFB Try.prog (G_slices_Clone_int L) T_slices_Clone_int L base c) L en94.ms lv 0 (bodyN Try.f94) (pad xs Try.f94.ntmps) st)) := clO_i base_94 (fun hB => evFB_s (hB := hB) (hT := by rfl) (hb := by rfl) ..)
attribute [local go_sem] Ty.tk3 Ty.ik3 Ty.ek3 Ty.zv3 Ty.by3 Ty.so3 Ty.tk4 Ty.ub4 Ty.ek4 Ty.zv4 Ty.by4 Ty.so4 Ty.tk22 Ty.zv22 Ty.by22 Ty.so22 Ty.k22_e E.mk94_1000000 lk_slices_Clone_int_b bs_slices_Clone_int base_i mkeys_map sortedC_i Ev.clO_s Ev.clO_n Ev.cl_d Ev.cl_nils Ev.cl_nila Ev.cl_rs lk_slices_Clone_int_94 in_slices_Clone_int_94 loopN loops Try.f94
theorem e_slices_Clone_int (L : Nat) (hL : L ≤ 4611686018427387904) (a0 : List Int) (res : List Int) (h : p_slices_Clone_int L a0 = some res) : evTopB Try.prog (G_slices_Clone_int L) T_slices_Clone_int L base 1 94 [.sl 3 (a0.map (D.int .i64))] = some [.sl 3 (res.map (D.int .i64))] := by
  revert h
  unfold p_slices_Clone_int evTopB
  simp only [List.map]
  rw [in_slices_Clone_int_94]
  refine cb_i (fun c1 => ?_) (fun c1 => ?_)
  · have c2 : a0.length = 0 := by have := of_decide_eq_true c1; omega
    have c3 : a0.length = 0 := by have := of_decide_eq_true c1; omega
    rintro ⟨⟩
    simp only [go_sem, *]
  · have c4 : 0 < a0.length := by have := of_decide_eq_false c1; omega
    have c5 : ¬ a0.length = 0 := by have := of_decide_eq_false c1; omega
    refine rq_i fun c6 => ?_
    refine rq_i fun c7 => ?_
    rintro ⟨⟩
    simp only [go_sem, *]
noncomputable def s_slices_Clone_int (L : Nat) : Ev.Spec := specP (cCons k22 cNil) (fun x => p_slices_Clone_int L x.1) (fun r => [.sl 3 (r.map (D.int .i64))])
theorem s_slices_Clone_int_run (L : Nat) (a0 : List Int) : (s_slices_Clone_int L).run [.sl 3 (a0.map (D.int .i64))] = (p_slices_Clone_int L a0).map fun r => [.sl 3 (r.map (D.int .i64))] := specP_run (cCons k22 cNil) (fun x => p_slices_Clone_int L x.1) (fun r => [.sl 3 (r.map (D.int .i64))]) (a0, ())
theorem ok_slices_Clone_int (L : Nat) (hL : L ≤ 4611686018427387904) : SpecOk Try.prog 94 (s_slices_Clone_int L) := specP_okB mixed (Go_slices_Clone_int L hL) (To_slices_Clone_int L) base_ok fun x r h => ⟨L, 1, e_slices_Clone_int L hL x.1 r h⟩
end Go.Proofs.Ytnojehmbiceceaa.P
end
section
set_option linter.unusedVariables false
set_option linter.unusedSimpArgs false
set_option maxRecDepth 100000
set_option maxHeartbeats 4000000
namespace Go.Proofs.Ytnojehmbiceceaa.P
open Go.Ev Go.IntKind Go.Proofs.Ytnojehmbiceceaa Go.Proofs.Ytnojehmbiceceaa.Ty Go.Proofs.Ytnojehmbiceceaa.E
def p_catalog_copies_l0 (L : Nat) (a0 : List (Int × (Int × ((Int × Int × Bool × Unit) × (Int × Int × Bool × Unit) × (Int × Int × Bool × Unit) × Unit) × (Int × Int × Bool × Unit) × (Int × Int × Bool × Unit) × (List Int) × Int × Unit) × Unit)) : Nat → Int → Option Unit
  | 0, s3 => some ()
  | tl + 1, s3 => bnd (idx a0 s3) fun x6 => bnd (p_slices_Clone_int L x6.2.1.2.2.2.2.1) fun r7 => none
def p_catalog_copies_l1 (L : Nat)  : Nat → Int → (List (Int × (Int × ((Int × Int × Bool × Unit) × (Int × Int × Bool × Unit) × (Int × Int × Bool × Unit) × Unit) × (Int × Int × Bool × Unit) × (Int × Int × Bool × Unit) × (List Int) × Int × Unit) × Unit)) → Option (List (Int × (Int × ((Int × Int × Bool × Unit) × (Int × Int × Bool × Unit) × (Int × Int × Bool × Unit) × Unit) × (Int × Int × Bool × Unit) × (Int × Int × Bool × Unit) × (List Int) × Int × Unit) × Unit))
  | 0, s12, s15 => some s15
  | tl + 1, s12, s15 => bnd (idx s15 s12) fun x18 => bnd (p_slices_Clone_int L x18.2.1.2.2.2.2.1) fun r19 => p_catalog_copies_l1 L  tl (s12 + 1) (s15.set s12.toNat (x18.1, (x18.2.1.1, x18.2.1.2.1, x18.2.1.2.2.1, x18.2.1.2.2.2.1, r19, x18.2.1.2.2.2.2.2.1, ()), ()))
def p_catalog_copies (L : Nat) (a0 : List (Int × (Int × ((Int × Int × Bool × Unit) × (Int × Int × Bool × Unit) × (Int × Int × Bool × Unit) × Unit) × (Int × Int × Bool × Unit) × (Int × Int × Bool × Unit) × (List Int) × Int × Unit) × Unit)) : Option (List (Int × (Int × ((Int × Int × Bool × Unit) × (Int × Int × Bool × Unit) × (Int × Int × Bool × Unit) × Unit) × (Int × Int × Bool × Unit) × (Int × Int × Bool × Unit) × (List Int) × Int × Unit) × Unit)) := cb (decide (a0.length = 0)) (rq ((a0.length : Int).toNat < L) <| rq ((a0.length : Int) < 4611686018427387904) <| bnd (p_catalog_copies_l0 L a0 (a0.length : Int).toNat 0) fun o8 => some a0) (rq (a0.length ≤ maxRow) <| rq ((a0.length) * 168 ≤ maxRow) <| rq ((a0.length : Int).toNat < L) <| rq ((a0.length : Int) < 4611686018427387904) <| bnd (p_catalog_copies_l1 L (a0.length : Int).toNat 0 a0) fun o20 => some o20)
attribute [local go_sem] Ev.putR_s Ev.putR_0 Ev.thenO_s Ev.thenO_0 Ev.seqR_n Ev.seqR_e Ev.seqR_r Ev.seqR_0 Ev.blkR_e Ev.blkR_n Ev.blkR_r Ev.blkR_0 Ev.normR_s Ev.normR_0 Ev.outR_r Ev.outR_n Ev.outR_0 Ev.retS_s Ev.retS_0 Ev.pureO_s Ev.pureO_0 Ev.topR_0 Ev.topR_t Ev.topR_t0 Ev.oneL_0 Ev.oneL_s Ev.topR_d Ev.topR_nils Ev.topR_agg Ev.topR_rs Ev.evOp_move Ev.evOp_assign Ev.evOp_pick Ev.evOp_alloc Ev.evOp_box Ev.evOp_build Ev.evOp_buildSlice Ev.evOp_load Ev.evOp_store Ev.evOp_makeMap Ev.evOp_lookup Ev.evOp_mapUpdate Ev.evOp_insert Ev.evOp_nilCheck Ev.evOp_binOp Ev.evOp_unOp Ev.evOp_convert Ev.evOp_makeFunc Ev.evOp_makeSlice Ev.evOp_slice Ev.evOp_fieldAddr Ev.evOp_field Ev.evOp_indexAddr Ev.evOp_index Ev.evOp_extract Ev.evOp_call Ev.evOp_append Ev.evOp_clear Ev.evOp_len Ev.evLen_d Ev.evLen_rs Ev.evLen_nils Ev.evLen_nila Ev.evLen_mp Ev.evOp_min Ev.evOp_max Ev.condR_b Ev.condR_t Ev.evOps_nil Ev.evOps_plain Ev.evOps_guard Ev.runG_eq Ev.skipG_eq Ev.condL_tt Ev.condL_ff Ev.condL_tf Ev.condL_ft Ev.condL_u Ev.condC_t Ev.condC_f Ev.evC_skip Ev.evC_ret Ev.evC_exit Ev.evC_label Ev.evC_region Ev.evC_draw Ev.evC_seq Ev.evC_cond Ev.evC_block Ev.evC_loop Ev.fin_d Ev.fin_nila Ev.fin_nils Ev.fin_agg_ Ev.fin_rs Ev.finS_s Ev.mapO_fin Ev.upd_upd Ev.argv_d Ev.argv_nila Ev.argv_nils Ev.argv_agg Ev.argv_rs Ev.argv_p Ev.fk_low Ev.appendTo_nils Ev.appendTo_nila Ev.appendTo_rs Ev.consV_d Ev.consV_agg Ev.consV_p Ev.consV_rs Ev.consV_nila Ev.consV_nils Ev.consV_fn Ev.consV_und Ev.consV_jk Ev.consV_grown Ev.topR_grown Ev.len_grown Ev.consV_nilm Ev.consV_mp Ev.sameK_i Ev.sameK_s Ev.mget_0 Ev.mget_hit Ev.mget_miss Ev.mput_0 Ev.mput_hit Ev.mput_miss Ev.apartAll Ev.apartL Ev.apartV Ev.freeAll Ev.sel Ev.keyOfV Ev.evLookup Ev.evPut Ev.hintOk Ev.keyOk Ev.consP Ev.lookV Ev.guardV Ev.dstAt Ev.evPure Ev.evStore Ev.evBin Ev.evBinO Ev.evNil Ev.isNilC Ev.evUn Ev.evConv Ev.evSlice Ev.optI Ev.foldI Ev.capsOk Ev.noTup Ev.nth Ev.setN Ev.killAt Ev.pad Ev.V.get Ev.V.put Ev.putD Ev.newBlk Ev.upd Ev.keq Ev.empty Ev.evCall Ev.V.args Ev.argP Ev.callOf Ev.evNilP Ev.isNilP Ev.look Ev.V.view.views Ev.V.view Ev.V.toD Ev.V.toD.V.toDs Ev.V.pure.pures Ev.V.pure Ev.D.flat.flats Ev.D.flat Ev.mkAgg Ev.allD Ev.aggParts Ev.setParts Ev.setElems Ev.getPath Ev.setPath Ev.subL Ev.eqD Ev.eqD.eqDs Ev.and2 Ev.strCut Ev.evalT Ev.constT Ev.evArgs Ev.mask Ev.maskOf Ev.tableOf Ev.compT Ev.resV Ev.retV Ev.mapO Ev.eT_nils Ev.ag_t Ev.ag_f Ev.ag_0 Ev.ag_n Ev.mx_u64 Ev.mx_u32 Ev.mx_u16 Ev.mx_u8 Ev.sg_i64 Ev.sg_i32 Ev.sg_i16 Ev.sg_i8 Ev.sg_u64 Ev.sg_u32 Ev.sg_u16 Ev.sg_u8 Ev.mapE_i Ev.mapV_nil Ev.hT_nilm Ev.mget_map Ev.mput_map Ev.mapV_put Ev.mapV_half Ev.hT_nila Ev.eO_nila Ev.pL_nila Ev.evLen_gl Ev.r_nila Ev.frzO_n Ev.frzO_e Ev.frzO_r Ev.frzO_0 Ev.mb_z Ev.mb_0 Ev.mb_s Ev.frzL_t Ev.frzL_f Ev.frzL_0 Ev.frzT_nils Ev.frzT_rs Ev.frzT_p Ev.frzK_i Ev.keyIn_i Ev.rI_nil Ev.rI_cons Ev.rI_row Ev.rI_app Ev.r_d Ev.r_nils Ev.r_agg Ev.r_rs Ev.r_gl Ev.vw_row Ev.vw_app Ev.appO_s Ev.frzT_gl Ev.allD_gl Ev.killAt_i Ev.tkOne_i Ev.hT_agg Ev.hT_vagg Ev.hT_int Ev.hT_bool Ev.hT_str Ev.hT_sl Ev.hT_ptr Ev.hT_np Ev.hT_p Ev.hT_rs Ev.hT_mp Ev.hT_nils Ev.hT_fn Ev.hT_jk Ev.hT_gl Ev.eO_sl Ev.eO_nils Ev.eO_rs Ev.eT_sl Ev.eT_rs Ev.pL_str Ev.pL_sl Ev.pL_rs Ev.pL_nils Ev.pL_min Ev.pL_max Ev.len_glB Ev.noTup_gl Ev.rowV_len Ev.rowV_nil Ev.rowV_cons Ev.rowV_append Ev.rowV_set Ev.rowV_replicate Ev.nth_row Ev.row_take Ev.row_drop Ev.toDs_row Ev.fin_row Ev.map_row Ev.map_take_ Ev.map_drop_ Ev.Bk_i Ev.GlB_0 Ev.GlB_mk Ev.gl_nil Ev.gl_cons Ev.gl_snoc Ev.gl_setN Ev.appendTo_gl Ev.consV_gl Ev.elems_gl Ev.fin_gl Ev.view_gl Ev.argv_gl Ev.topR_gl Ev.sp_z Ev.sp_0 Ev.sp_s Ev.km_z Ev.km_0 Ev.km_s Ev.beq_toList Ev.nc0 Ev.bq_t Ev.bq_f Ev.bodyN Ev.le_maxRow Int.cast_ofNat_Int IntWalk.i64_in IntWalk.u64_in IntWalk.u8_in beq_self_eq_true Bool.true_beq Bool.false_beq Bool.and_true Bool.true_and Bool.false_and Bool.and_false Bool.and_self Bool.not_true Bool.not_false Bool.not_eq_true cond_true cond_false if_true if_false and_true true_and and_self decide_true decide_false Bool.or_true Bool.true_or Bool.or_false Bool.false_or List.isEmpty List.isEmpty_nil List.size_toArray List.map List.length_map List.length_cons List.length_nil Option.map Option.bind Option.getD Option.isSome List.replicate Bool.false_eq_true implies_true false_implies forall_const Array.toList Array.isEmpty List.append List.nil_append List.cons_append List.drop_zero List.take_length List.take_succ_cons List.take_zero List.take_nil List.getElem?_map List.getElem?_cons_zero List.getElem?_cons_succ List.getElem?_nil List.append_nil eq_self Int.toNat_natCast List.length_append List.length_set Nat.zero_add Nat.add_zero List.length_replicate Nat.sub_zero Option.map_some Option.map_none Int.le_refl Nat.le_refl Int.natCast_nonneg List.map_append
attribute [local go_sem_proc] Nat.reduceAdd Nat.reduceSub Nat.reduceMul Nat.reduceEqDiff Nat.reduceBEq Nat.reduceLT Nat.reduceLeDiff Nat.reducePow Int.reduceToNat Int.reduceLT Int.reduceLE Int.reduceGT Int.reduceGE Int.reduceEq Int.reduceNeg Int.reduceAdd Int.reduceSub Int.reduceMul reduceCtorEq
attribute [local go_sem_proc ↓] reduceIte
noncomputable def G_catalog_copies (L : Nat) : Specs := [(94, s_slices_Clone_int L)]
noncomputable def T_catalog_copies : Table := tableOf [(132, en132), (195, en195)]
theorem Go_catalog_copies (L : Nat) (hL : L ≤ 4611686018427387904) : ∀ g s, Ev.look (G_catalog_copies L) g = some s → SpecOk Try.prog g s := (specs_cons (ok_slices_Clone_int L hL) specs_nil)
theorem To_catalog_copies (L : Nat) : TableOk Try.prog ((G_catalog_copies L).map (·.1)) T_catalog_copies := (table_cons Try.func132 (by kernel_rfl) (by kernel_rfl) (table_cons Try.func195 (by kernel_rfl) (by kernel_rfl) table_nil))
theorem lk_catalog_copies_b (L : Nat) : Ev.look (G_catalog_copies L) 145 = none := nr rfl
theorem tb_catalog_copies : T_catalog_copies 145 = none := nr rfl
theorem bs_catalog_copies (L c lv : Nat) (xs : List V) (st : Store) : evFB Try.prog (G_catalog_copies L) T_catalog_copies L base c 145 xs lv st = base 145 xs lv st := evFB_b _ _ _ _ tb_catalog_copies
theorem lk_catalog_copies_94 (L : Nat) : Ev.look (G_catalog_copies L) 94 = some (s_slices_Clone_int L) := nr rfl
theorem lk_catalog_copies_195 (L : Nat) : Ev.look (G_catalog_copies L) 195 = none := nr rfl
theorem in_catalog_copies_195 (L c lv : Nat) (xs : List V) (st : Store) : evFB Try.prog (G_catalog_copies L) T_catalog_copies L base (c + 1) 195 xs lv st = clO (cloneC xs st) (outR Try.prog Try.f195.results.toList (evC Try.prog (G_catalog_copies L) (evFB Try.prog (G_catalog_copies L) T_catalog_copies L base c) L en195.ms lv 0 (bodyN Try.f195) (pad xs Try.f195.ntmps) st)) := clO_i base_195 (fun hB => evFB_s (hB := hB) (hT := by rfl) (hb := by rfl) ..)
attribute [local go_sem] Ty.tk3 Ty.ik3 Ty.ek3 Ty.zv3 Ty.by3 Ty.so3 Ty.tk4 Ty.ub4 Ty.ek4 Ty.zv4 Ty.by4 Ty.so4 Ty.tk22 Ty.zv22 Ty.by22 Ty.so22 Ty.tk24 Ty.ik24 Ty.ek24 Ty.zv24 Ty.by24 Ty.so24 Ty.tk35 Ty.ct35 Ty.ek35 Ty.zv35 Ty.by35 Ty.so35 Ty.tk62 Ty.ik62 Ty.ek62 Ty.zv62 Ty.by62 Ty.so62 Ty.tk64 Ty.ct64 Ty.ek64 Ty.zv64 Ty.by64 Ty.so64 Ty.tk66 Ty.ct66 Ty.ek66 Ty.zv66 Ty.by66 Ty.so66 Ty.tk72 Ty.ik72 Ty.ek72 Ty.zv72 Ty.by72 Ty.so72 Ty.tk87 Ty.ct87 Ty.ek87 Ty.zv87 Ty.by87 Ty.so87 Ty.tk89 Ty.ct89 Ty.zv89 Ty.by89 Ty.so89 Ty.tk93 Ty.zv93 Ty.by93 Ty.so93 Ty.tk118 Ty.ct118 Ty.zv118 Ty.by118 Ty.so118 Ty.k22_e Ty.k35_e Ty.k64_e Ty.k66_e Ty.k87_e Ty.k89_e Ty.k93_e Ty.k118_e E.mk132_0 E.mk132_1000001 E.mk132_1000002 E.mk132_1000000 E.fz132_0 E.fi132_0 E.mk195_1000000 E.lb132_0 lk_catalog_copies_b bs_catalog_copies base_i mkeys_map sortedC_i Ev.clO_s Ev.clO_n Ev.cl_d Ev.cl_nils Ev.cl_nila Ev.cl_rs lk_catalog_copies_94 lk_catalog_copies_195 in_catalog_copies_195 s_slices_Clone_int_run loopN loops Try.f132 Try.f195
def Q0_p_catalog_copies_l0 (a0 : List (Int × (Int × ((Int × Int × Bool × Unit) × (Int × Int × Bool × Unit) × (Int × Int × Bool × Unit) × Unit) × (Int × Int × Bool × Unit) × (Int × Int × Bool × Unit) × (List Int) × Int × Unit) × Unit)) (a2 : Int) (u : Unit) (z : Out) : Prop := ∃ env st, z = some (.exit 0, env, st) ∧ env = sp 26 0 [(3, .d (.sl 118 (a0.map k118.e)))]
abbrev Q_p_catalog_copies_l0 (a0 : List (Int × (Int × ((Int × Int × Bool × Unit) × (Int × Int × Bool × Unit) × (Int × Int × Bool × Unit) × Unit) × (Int × Int × Bool × Unit) × (Int × Int × Bool × Unit) × (List Int) × Int × Unit) × Unit)) (a2 : Int) (o : Unit) (z : Out) : Prop := Q0_p_catalog_copies_l0 a0 a2 o z
theorem l_p_catalog_copies_l0 (L : Nat) (hL : L ≤ 4611686018427387904) (a0 : List (Int × (Int × ((Int × Int × Bool × Unit) × (Int × Int × Bool × Unit) × (Int × Int × Bool × Unit) × Unit) × (Int × Int × Bool × Unit) × (Int × Int × Bool × Unit) × (List Int) × Int × Unit) × Unit)) (a2 : Int) : ∀ (tl n : Nat) (s3 : Int) (env : List V) (st : Store) (o : Unit), tl < n → Cnt a2 s3 tl → mask (maskOf en132.ms 0) env = sp 26 0 [(3, .d (.sl 118 (a0.map k118.e))), (8, .d (.int .i64 a2)), (9, .d (.int .i64 s3))] → p_catalog_copies_l0 L a0 tl s3  = some o →
    Q_p_catalog_copies_l0 a0 a2 o (iter (evC Try.prog (G_catalog_copies L) (evFB Try.prog (G_catalog_copies L) T_catalog_copies L base 1) L en132.ms 0 0 lb132_0) (maskOf en132.ms 0) n env st) := by
  intro tl
  induction tl with
  | zero =>
    intro n s3  env st o hn hR he  h
    obtain ⟨n, rfl⟩ : ∃ m, n = m + 1 := ⟨n - 1, by omega⟩
    have g0 := cnt_nil hR
    rw [iter, he]
    clear he
    generalize hK : iter _ _ n = K
    rw [p_catalog_copies_l0] at h
    revert h
    rintro ⟨⟩
    simp only [go_sem, *]
    refine (⟨_, _, rfl, ?_⟩ : Q0_p_catalog_copies_l0 _ _ _ _)
    all_goals simp only [go_sem, *]
  | succ tl ih =>
    intro n s3  env st o hn hR he  h
    obtain ⟨n, rfl⟩ : ∃ m, n = m + 1 := ⟨n - 1, by omega⟩
    replace ih : Hold _ := ih
    replace hR := cnt_s hR
    obtain ⟨g0, g1, g3, hR⟩ := hR
    rw [iter, he]
    clear he
    generalize hK : iter _ _ n = K
    rw [p_catalog_copies_l0] at h
    revert h
    refine idx_i fun x6 c1 c2 c3 => ?_
    refine bnd_i fun r7 c4 => ?_
    intro h; cases h
def Q0_p_catalog_copies_l1 (a11 : Int) (u : List (Int × (Int × ((Int × Int × Bool × Unit) × (Int × Int × Bool × Unit) × (Int × Int × Bool × Unit) × Unit) × (Int × Int × Bool × Unit) × (Int × Int × Bool × Unit) × (List Int) × Int × Unit) × Unit)) (z : Out) : Prop := ∃ env st, z = some (.exit 0, env, st) ∧ env = sp 26 0 [(3, .rs 118 (7, 5) (st (7, 5)).ver 0 u.length true)] ∧ Bk (st (7, 5)) 118 (rowV k118.e u)
abbrev Q_p_catalog_copies_l1 (a11 : Int) (o : List (Int × (Int × ((Int × Int × Bool × Unit) × (Int × Int × Bool × Unit) × (Int × Int × Bool × Unit) × Unit) × (Int × Int × Bool × Unit) × (Int × Int × Bool × Unit) × (List Int) × Int × Unit) × Unit)) (z : Out) : Prop := Q0_p_catalog_copies_l1 a11 o z
theorem l_p_catalog_copies_l1 (L : Nat) (hL : L ≤ 4611686018427387904) (a11 : Int) : ∀ (tl n : Nat) (s12 : Int) (s15 : List (Int × (Int × ((Int × Int × Bool × Unit) × (Int × Int × Bool × Unit) × (Int × Int × Bool × Unit) × Unit) × (Int × Int × Bool × Unit) × (Int × Int × Bool × Unit) × (List Int) × Int × Unit) × Unit)) (env : List V) (st : Store) (o : List (Int × (Int × ((Int × Int × Bool × Unit) × (Int × Int × Bool × Unit) × (Int × Int × Bool × Unit) × Unit) × (Int × Int × Bool × Unit) × (Int × Int × Bool × Unit) × (List Int) × Int × Unit) × Unit)), tl < n → Cnt a11 s12 tl → mask (maskOf en132.ms 0) env = sp 26 0 [(3, .rs 118 (7, 5) (st (7, 5)).ver 0 s15.length true), (8, .d (.int .i64 a11)), (9, .d (.int .i64 s12))] → Bk (st (7, 5)) 118 (rowV k118.e s15) → p_catalog_copies_l1 L  tl s12 s15 = some o →
    Q_p_catalog_copies_l1 a11 o (iter (evC Try.prog (G_catalog_copies L) (evFB Try.prog (G_catalog_copies L) T_catalog_copies L base 1) L en132.ms 0 0 lb132_0) (maskOf en132.ms 0) n env st) := by
  intro tl
  induction tl with
  | zero =>
    intro n s12 s15 env st o hn hR he hb0 h
    obtain ⟨n, rfl⟩ : ∃ m, n = m + 1 := ⟨n - 1, by omega⟩
    obtain ⟨be0, bv0, bl0⟩ := hb0
    have g0 := cnt_nil hR
    rw [iter, he]
    clear he
    generalize hK : iter _ _ n = K
    rw [p_catalog_copies_l1] at h
    revert h
    rintro ⟨⟩
    simp only [go_sem, *]
    refine (⟨_, _, rfl, ?_, ?_⟩ : Q0_p_catalog_copies_l1 _ _ _)
    all_goals simp only [go_sem, *]
  | succ tl ih =>
    intro n s12 s15 env st o hn hR he hb0 h
    obtain ⟨n, rfl⟩ : ∃ m, n = m + 1 := ⟨n - 1, by omega⟩
    obtain ⟨be0, bv0, bl0⟩ := hb0
    replace ih : Hold _ := ih
    replace hR := cnt_s hR
    obtain ⟨g0, g1, g3, hR⟩ := hR
    rw [iter, he]
    clear he
    generalize hK : iter _ _ n = K
    rw [p_catalog_copies_l1] at h
    revert h
    refine idx_i fun x18 c1 c2 c3 => ?_
    refine bnd_i fun r19 c4 => ?_
    intro h
    simp only [go_sem, *]
    subst hK
    refine ih n (s12 + 1) (s15.set s12.toNat (x18.1, (x18.2.1.1, x18.2.1.2.1, x18.2.1.2.2.1, x18.2.1.2.2.2.1, r19, x18.2.1.2.2.2.2.2.1, ()), ())) _ _ _ (by omega) hR ?_ ?_ h
    all_goals simp only [go_sem, *]
theorem e_catalog_copies (L : Nat) (hL : L ≤ 4611686018427387904) (a0 : List (Int × (Int × ((Int × Int × Bool × Unit) × (Int × Int × Bool × Unit) × (Int × Int × Bool × Unit) × Unit) × (Int × Int × Bool × Unit) × (Int × Int × Bool × Unit) × (List Int) × Int × Unit) × Unit)) (res : List (Int × (Int × ((Int × Int × Bool × Unit) × (Int × Int × Bool × Unit) × (Int × Int × Bool × Unit) × Unit) × (Int × Int × Bool × Unit) × (Int × Int × Bool × Unit) × (List Int) × Int × Unit) × Unit)) (h : p_catalog_copies L a0 = some res) : evTopB Try.prog (G_catalog_copies L) T_catalog_copies L base 2 132 [.sl 118 (a0.map k118.e)] = some [.sl 118 (res.map k118.e)] := by
  revert h
  unfold p_catalog_copies evTopB
  simp only [List.map]
  rw [evFB_s (hB := by rfl) (fn := Try.f132) (msk := en132.ms) (hT := by rfl) (hb := by rfl)]
  refine cb_i (fun c1 => ?_) (fun c1 => ?_)
  · have c2 : a0.length = 0 := by have := of_decide_eq_true c1; omega
    have c3 : a0.length = 0 := by have := of_decide_eq_true c1; omega
    refine rq_i fun c4 => ?_
    refine rq_i fun c5 => ?_
    refine bnd_i fun o8 ho6 => ?_
    intro h
    simp only [go_sem, *]
    generalize hz8 : iter _ _ _ _ _ = z7
    have hq9 : Q_p_catalog_copies_l0 a0 (a0.length : Int) o8 z7 := by
      rw [← hz8]
      refine l_p_catalog_copies_l0 L hL a0 (a0.length : Int) _ L 0  _ _ _ c4 (cnt_00 (by decide) c5) ?_ ho6
      all_goals simp only [go_sem, *]
    clear hz8 ho6
    obtain ⟨_, st9, rfl, rfl⟩ := hq9
    revert h
    rintro ⟨⟩
    simp only [go_sem, *]
  · have c10 : 0 < a0.length := by have := of_decide_eq_false c1; omega
    have c11 : ¬ a0.length = 0 := by have := of_decide_eq_false c1; omega
    refine rq_i fun c12 => ?_
    refine rq_i fun c13 => ?_
    refine rq_i fun c14 => ?_
    refine rq_i fun c15 => ?_
    refine bnd_i fun o20 ho16 => ?_
    intro h
    simp only [go_sem, *]
    generalize hz18 : iter _ _ _ _ _ = z17
    have hq19 : Q_p_catalog_copies_l1 (a0.length : Int) o20 z17 := by
      rw [← hz18]
      refine l_p_catalog_copies_l1 L hL (a0.length : Int) _ L 0 a0 _ _ _ c14 (cnt_00 (by decide) c15) ?_ ?_ ho16
      all_goals simp only [go_sem, *]
    clear hz18 ho16
    obtain ⟨_, st21, rfl, rfl, ⟨k201, k202, k203⟩⟩ := hq19
    revert h
    rintro ⟨⟩
    simp only [go_sem, *]
noncomputable def s_catalog_copies (L : Nat) : Ev.Spec := specP (cCons k93 cNil) (fun x => p_catalog_copies L x.1) (fun r => [.sl 118 (r.map k118.e)])
theorem s_catalog_copies_run (L : Nat) (a0 : List (Int × (Int × ((Int × Int × Bool × Unit) × (Int × Int × Bool × Unit) × (Int × Int × Bool × Unit) × Unit) × (Int × Int × Bool × Unit) × (Int × Int × Bool × Unit) × (List Int) × Int × Unit) × Unit)) : (s_catalog_copies L).run [.sl 118 (a0.map k118.e)] = (p_catalog_copies L a0).map fun r => [.sl 118 (r.map k118.e)] := specP_run (cCons k93 cNil) (fun x => p_catalog_copies L x.1) (fun r => [.sl 118 (r.map k118.e)]) (a0, ())
theorem ok_catalog_copies (L : Nat) (hL : L ≤ 4611686018427387904) : SpecOk Try.prog 132 (s_catalog_copies L) := specP_okB mixed (Go_catalog_copies L hL) (To_catalog_copies L) base_ok fun x r h => ⟨L, 2, e_catalog_copies L hL x.1 r h⟩
def sk_catalog_copies : Ev.Spec := specK (c := (cCons k93 cNil)) (dCons (dL 118 (dA 118 (dCons (dI .i64) (dCons (dA 89 (dCons (dI .i64) (dCons (dA 66 (dCons (dA 64 (dCons (dI .i64) (dCons (dI .i64) (dCons dB dNil)))) (dCons (dA 64 (dCons (dI .i64) (dCons (dI .i64) (dCons dB dNil)))) (dCons (dA 64 (dCons (dI .i64) (dCons (dI .i64) (dCons dB dNil)))) dNil)))) (dCons (dA 35 (dCons (dI .i64) (dCons (dI .i64) (dCons dB dNil)))) (dCons (dA 87 (dCons (dI .i64) (dCons (dI .i64) (dCons dB dNil)))) (dCons (dL 3 (dI .i64)) (dCons (dI .i64) dNil))))))) dNil)))) dNil) (fun x => p_catalog_copies 1000 x.1) (fun r => [.sl 118 (r.map k118.e)])
theorem okk_catalog_copies : SpecOk Try.prog 132 sk_catalog_copies := specK_okB (dCons (dL 118 (dA 118 (dCons (dI .i64) (dCons (dA 89 (dCons (dI .i64) (dCons (dA 66 (dCons (dA 64 (dCons (dI .i64) (dCons (dI .i64) (dCons dB dNil)))) (dCons (dA 64 (dCons (dI .i64) (dCons (dI .i64) (dCons dB dNil)))) (dCons (dA 64 (dCons (dI .i64) (dCons (dI .i64) (dCons dB dNil)))) dNil)))) (dCons (dA 35 (dCons (dI .i64) (dCons (dI .i64) (dCons dB dNil)))) (dCons (dA 87 (dCons (dI .i64) (dCons (dI .i64) (dCons dB dNil)))) (dCons (dL 3 (dI .i64)) (dCons (dI .i64) dNil))))))) dNil)))) dNil) mixed (Go_catalog_copies 1000 (by decide)) (To_catalog_copies 1000) base_ok fun x r h => ⟨1000, 2, e_catalog_copies 1000 (by decide) x.1 r h⟩
end Go.Proofs.Ytnojehmbiceceaa.P
end
section
set_option linter.unusedVariables false
set_option linter.unusedSimpArgs false
set_option maxRecDepth 100000
set_option maxHeartbeats 4000000
namespace Go.Proofs.Ytnojehmbiceceaa.P
open Go.Ev Go.IntKind Go.Proofs.Ytnojehmbiceceaa Go.Proofs.Ytnojehmbiceceaa.Ty Go.Proofs.Ytnojehmbiceceaa.E
def p_spylaw3_catalogs (L : Nat) : Option Bool := some true
attribute [local go_sem] Ev.putR_s Ev.putR_0 Ev.thenO_s Ev.thenO_0 Ev.seqR_n Ev.seqR_e Ev.seqR_r Ev.seqR_0 Ev.blkR_e Ev.blkR_n Ev.blkR_r Ev.blkR_0 Ev.normR_s Ev.normR_0 Ev.outR_r Ev.outR_n Ev.outR_0 Ev.retS_s Ev.retS_0 Ev.pureO_s Ev.pureO_0 Ev.topR_0 Ev.topR_t Ev.topR_t0 Ev.oneL_0 Ev.oneL_s Ev.topR_d Ev.topR_nils Ev.topR_agg Ev.topR_rs Ev.evOp_move Ev.evOp_assign Ev.evOp_pick Ev.evOp_alloc Ev.evOp_box Ev.evOp_build Ev.evOp_buildSlice Ev.evOp_load Ev.evOp_store Ev.evOp_makeMap Ev.evOp_lookup Ev.evOp_mapUpdate Ev.evOp_insert Ev.evOp_nilCheck Ev.evOp_binOp Ev.evOp_unOp Ev.evOp_convert Ev.evOp_makeFunc Ev.evOp_makeSlice Ev.evOp_slice Ev.evOp_fieldAddr Ev.evOp_field Ev.evOp_indexAddr Ev.evOp_index Ev.evOp_extract Ev.evOp_call Ev.evOp_append Ev.evOp_clear Ev.evOp_len Ev.evLen_d Ev.evLen_rs Ev.evLen_nils Ev.evLen_nila Ev.evLen_mp Ev.evOp_min Ev.evOp_max Ev.condR_b Ev.condR_t Ev.evOps_nil Ev.evOps_plain Ev.evOps_guard Ev.runG_eq Ev.skipG_eq Ev.condL_tt Ev.condL_ff Ev.condL_tf Ev.condL_ft Ev.condL_u Ev.condC_t Ev.condC_f Ev.evC_skip Ev.evC_ret Ev.evC_exit Ev.evC_label Ev.evC_region Ev.evC_draw Ev.evC_seq Ev.evC_cond Ev.evC_block Ev.evC_loop Ev.fin_d Ev.fin_nila Ev.fin_nils Ev.fin_agg_ Ev.fin_rs Ev.finS_s Ev.mapO_fin Ev.upd_upd Ev.argv_d Ev.argv_nila Ev.argv_nils Ev.argv_agg Ev.argv_rs Ev.argv_p Ev.fk_low Ev.appendTo_nils Ev.appendTo_nila Ev.appendTo_rs Ev.consV_d Ev.consV_agg Ev.consV_p Ev.consV_rs Ev.consV_nila Ev.consV_nils Ev.consV_fn Ev.consV_und Ev.consV_jk Ev.consV_grown Ev.topR_grown Ev.len_grown Ev.consV_nilm Ev.consV_mp Ev.sameK_i Ev.sameK_s Ev.mget_0 Ev.mget_hit Ev.mget_miss Ev.mput_0 Ev.mput_hit Ev.mput_miss Ev.apartAll Ev.apartL Ev.apartV Ev.freeAll Ev.sel Ev.keyOfV Ev.evLookup Ev.evPut Ev.hintOk Ev.keyOk Ev.consP Ev.lookV Ev.guardV Ev.dstAt Ev.evPure Ev.evStore Ev.evBin Ev.evBinO Ev.evNil Ev.isNilC Ev.evUn Ev.evConv Ev.evSlice Ev.optI Ev.foldI Ev.capsOk Ev.noTup Ev.nth Ev.setN Ev.killAt Ev.pad Ev.V.get Ev.V.put Ev.putD Ev.newBlk Ev.upd Ev.keq Ev.empty Ev.evCall Ev.V.args Ev.argP Ev.callOf Ev.evNilP Ev.isNilP Ev.look Ev.V.view.views Ev.V.view Ev.V.toD Ev.V.toD.V.toDs Ev.V.pure.pures Ev.V.pure Ev.D.flat.flats Ev.D.flat Ev.mkAgg Ev.allD Ev.aggParts Ev.setParts Ev.setElems Ev.getPath Ev.setPath Ev.subL Ev.eqD Ev.eqD.eqDs Ev.and2 Ev.strCut Ev.evalT Ev.constT Ev.evArgs Ev.mask Ev.maskOf Ev.tableOf Ev.compT Ev.resV Ev.retV Ev.mapO Ev.eT_nils Ev.ag_t Ev.ag_f Ev.ag_0 Ev.ag_n Ev.mx_u64 Ev.mx_u32 Ev.mx_u16 Ev.mx_u8 Ev.sg_i64 Ev.sg_i32 Ev.sg_i16 Ev.sg_i8 Ev.sg_u64 Ev.sg_u32 Ev.sg_u16 Ev.sg_u8 Ev.mapE_i Ev.mapV_nil Ev.hT_nilm Ev.mget_map Ev.mput_map Ev.mapV_put Ev.mapV_half Ev.hT_nila Ev.eO_nila Ev.pL_nila Ev.evLen_gl Ev.r_nila Ev.frzO_n Ev.frzO_e Ev.frzO_r Ev.frzO_0 Ev.mb_z Ev.mb_0 Ev.mb_s Ev.frzL_t Ev.frzL_f Ev.frzL_0 Ev.frzT_nils Ev.frzT_rs Ev.frzT_p Ev.frzK_i Ev.keyIn_i Ev.rI_nil Ev.rI_cons Ev.rI_row Ev.rI_app Ev.r_d Ev.r_nils Ev.r_agg Ev.r_rs Ev.r_gl Ev.vw_row Ev.vw_app Ev.appO_s Ev.frzT_gl Ev.allD_gl Ev.killAt_i Ev.tkOne_i Ev.hT_agg Ev.hT_vagg Ev.hT_int Ev.hT_bool Ev.hT_str Ev.hT_sl Ev.hT_ptr Ev.hT_np Ev.hT_p Ev.hT_rs Ev.hT_mp Ev.hT_nils Ev.hT_fn Ev.hT_jk Ev.hT_gl Ev.eO_sl Ev.eO_nils Ev.eO_rs Ev.eT_sl Ev.eT_rs Ev.pL_str Ev.pL_sl Ev.pL_rs Ev.pL_nils Ev.pL_min Ev.pL_max Ev.len_glB Ev.noTup_gl Ev.rowV_len Ev.rowV_nil Ev.rowV_cons Ev.rowV_append Ev.rowV_set Ev.rowV_replicate Ev.nth_row Ev.row_take Ev.row_drop Ev.toDs_row Ev.fin_row Ev.map_row Ev.map_take_ Ev.map_drop_ Ev.Bk_i Ev.GlB_0 Ev.GlB_mk Ev.gl_nil Ev.gl_cons Ev.gl_snoc Ev.gl_setN Ev.appendTo_gl Ev.consV_gl Ev.elems_gl Ev.fin_gl Ev.view_gl Ev.argv_gl Ev.topR_gl Ev.sp_z Ev.sp_0 Ev.sp_s Ev.km_z Ev.km_0 Ev.km_s Ev.beq_toList Ev.nc0 Ev.bq_t Ev.bq_f Ev.bodyN Ev.le_maxRow Int.cast_ofNat_Int IntWalk.i64_in IntWalk.u64_in IntWalk.u8_in beq_self_eq_true Bool.true_beq Bool.false_beq Bool.and_true Bool.true_and Bool.false_and Bool.and_false Bool.and_self Bool.not_true Bool.not_false Bool.not_eq_true cond_true cond_false if_true if_false and_true true_and and_self decide_true decide_false Bool.or_true Bool.true_or Bool.or_false Bool.false_or List.isEmpty List.isEmpty_nil List.size_toArray List.map List.length_map List.length_cons List.length_nil Option.map Option.bind Option.getD Option.isSome List.replicate Bool.false_eq_true implies_true false_implies forall_const Array.toList Array.isEmpty List.append List.nil_append List.cons_append List.drop_zero List.take_length List.take_succ_cons List.take_zero List.take_nil List.getElem?_map List.getElem?_cons_zero List.getElem?_cons_succ List.getElem?_nil List.append_nil eq_self Int.toNat_natCast List.length_append List.length_set Nat.zero_add Nat.add_zero List.length_replicate Nat.sub_zero Option.map_some Option.map_none Int.le_refl Nat.le_refl Int.natCast_nonneg List.map_append
attribute [local go_sem_proc] Nat.reduceAdd Nat.reduceSub Nat.reduceMul Nat.reduceEqDiff Nat.reduceBEq Nat.reduceLT Nat.reduceLeDiff Nat.reducePow Int.reduceToNat Int.reduceLT Int.reduceLE Int.reduceGT Int.reduceGE Int.reduceEq Int.reduceNeg Int.reduceAdd Int.reduceSub Int.reduceMul reduceCtorEq
attribute [local go_sem_proc ↓] reduceIte
def Gk_spylaw3_catalogs : Specs := [(100, sk_cmp_Or_Errno), (122, sk_spylaw3_one), (126, sk_catalog_ends_Quanta), (127, sk_catalog_ends_Tick), (132, sk_catalog_copies), (1000000206, nullS)]
noncomputable def T_spylaw3_catalogs : Table := tableOf [(40, en40), (25, en25), (44, en44), (45, en45), (47, en47), (55, en55), (56, en56), (60, en60), (94, en94), (124, en124), (125, en125), (138, en138), (139, en139), (146, en146), (193, en193), (197, en197), (200, en200)]
theorem Gko_spylaw3_catalogs : ∀ g s, Ev.look Gk_spylaw3_catalogs g = some s → SpecOk Try.prog g s := (specs_cons okk_cmp_Or_Errno (specs_cons okk_spylaw3_one (specs_cons okk_catalog_ends_Quanta (specs_cons okk_catalog_ends_Tick (specs_cons okk_catalog_copies (specs_cons nullS_ok specs_nil))))))
theorem To_spylaw3_catalogs : TableOk Try.prog (Gk_spylaw3_catalogs.map (·.1)) T_spylaw3_catalogs := (table_cons Try.func40 (by kernel_rfl) (by kernel_rfl) (table_cons Try.func25 (by kernel_rfl) (by kernel_rfl) (table_cons Try.func44 (by kernel_rfl) (by kernel_rfl) (table_cons Try.func45 (by kernel_rfl) (by kernel_rfl) (table_cons Try.func47 (by kernel_rfl) (by kernel_rfl) (table_cons Try.func55 (by kernel_rfl) (by kernel_rfl) (table_cons Try.func56 (by kernel_rfl) (by kernel_rfl) (table_cons Try.func60 (by kernel_rfl) (by kernel_rfl) (table_cons Try.func94 (by kernel_rfl) (by kernel_rfl) (table_cons Try.func124 (by kernel_rfl) (by kernel_rfl) (table_cons Try.func125 (by kernel_rfl) (by kernel_rfl) (table_cons Try.func138 (by kernel_rfl) (by kernel_rfl) (table_cons Try.func139 (by kernel_rfl) (by kernel_rfl) (table_cons Try.func146 (by kernel_rfl) (by kernel_rfl) (table_cons Try.func193 (by kernel_rfl) (by kernel_rfl) (table_cons Try.func197 (by kernel_rfl) (by kernel_rfl) (table_cons Try.func200 (by kernel_rfl) (by kernel_rfl) table_nil)))))))))))))))))
theorem ek_spylaw3_catalogs : evTopB Try.prog Gk_spylaw3_catalogs T_spylaw3_catalogs 1000 base 40 40 [] = some [.bool true] := by kernel_rfl
def s_spylaw3_catalogs (L : Nat) : Ev.Spec := ⟨fun xs => match xs with | [] => some [.bool true] | _ => none⟩
theorem s_spylaw3_catalogs_run (L : Nat) : (s_spylaw3_catalogs L).run [] = (p_spylaw3_catalogs L).map fun r => [.bool r] := rfl
theorem ok_spylaw3_catalogs (L : Nat) (hL : L ≤ 4611686018427387904) : SpecOk Try.prog 40 (s_spylaw3_catalogs L) := spec_of_evB mixed Gko_spylaw3_catalogs To_spylaw3_catalogs base_ok fun xs rs hr => by
  simp only [s_spylaw3_catalogs] at hr
  split at hr
  · cases hr; exact ⟨1000, 40, ek_spylaw3_catalogs⟩
  · cases hr
end Go.Proofs.Ytnojehmbiceceaa.P
end
section
set_option linter.unusedVariables false
set_option linter.unusedSimpArgs false
set_option maxRecDepth 100000
set_option maxHeartbeats 4000000
namespace Go.Proofs.Ytnojehmbiceceaa.P
open Go.Ev Go.IntKind Go.Proofs.Ytnojehmbiceceaa Go.Proofs.Ytnojehmbiceceaa.Ty Go.Proofs.Ytnojehmbiceceaa.E
def p_catalog_Copy_l0 (L : Nat) (a0 : List (Int × ((Int × Int × Bool × Unit) × (Int × Int × Bool × Unit) × (Int × Int × Bool × Unit) × Unit) × (Int × Int × Bool × Unit) × (Int × Int × Bool × Unit) × (List Int) × Int × Unit)) : Nat → Int → Option Unit
  | 0, s3 => some ()
  | tl + 1, s3 => bnd (idx a0 s3) fun x6 => bnd (p_slices_Clone_int L x6.2.2.2.2.1) fun r7 => none
def p_catalog_Copy_l1 (L : Nat)  : Nat → Int → (List (Int × ((Int × Int × Bool × Unit) × (Int × Int × Bool × Unit) × (Int × Int × Bool × Unit) × Unit) × (Int × Int × Bool × Unit) × (Int × Int × Bool × Unit) × (List Int) × Int × Unit)) → Option (List (Int × ((Int × Int × Bool × Unit) × (Int × Int × Bool × Unit) × (Int × Int × Bool × Unit) × Unit) × (Int × Int × Bool × Unit) × (Int × Int × Bool × Unit) × (List Int) × Int × Unit))
  | 0, s12, s15 => some s15
  | tl + 1, s12, s15 => bnd (idx s15 s12) fun x18 => bnd (p_slices_Clone_int L x18.2.2.2.2.1) fun r19 => p_catalog_Copy_l1 L  tl (s12 + 1) (s15.set s12.toNat (x18.1, x18.2.1, x18.2.2.1, x18.2.2.2.1, r19, x18.2.2.2.2.2.1, ()))
def p_catalog_Copy (L : Nat) (a0 : List (Int × ((Int × Int × Bool × Unit) × (Int × Int × Bool × Unit) × (Int × Int × Bool × Unit) × Unit) × (Int × Int × Bool × Unit) × (Int × Int × Bool × Unit) × (List Int) × Int × Unit)) : Option (List (Int × ((Int × Int × Bool × Unit) × (Int × Int × Bool × Unit) × (Int × Int × Bool × Unit) × Unit) × (Int × Int × Bool × Unit) × (Int × Int × Bool × Unit) × (List Int) × Int × Unit)) := cb (decide (a0.length = 0)) (rq ((a0.length : Int).toNat < L) <| rq ((a0.length : Int) < 4611686018427387904) <| bnd (p_catalog_Copy_l0 L a0 (a0.length : Int).toNat 0) fun o8 => some a0) (rq (a0.length ≤ maxRow) <| rq ((a0.length) * 160 ≤ maxRow) <| rq ((a0.length : Int).toNat < L) <| rq ((a0.length : Int) < 4611686018427387904) <| bnd (p_catalog_Copy_l1 L (a0.length : Int).toNat 0 a0) fun o20 => some o20)
attribute [local go_sem] Ev.putR_s Ev.putR_0 Ev.thenO_s Ev.thenO_0 Ev.seqR_n Ev.seqR_e Ev.seqR_r Ev.seqR_0 Ev.blkR_e Ev.blkR_n Ev.blkR_r Ev.blkR_0 Ev.normR_s Ev.normR_0 Ev.outR_r Ev.outR_n Ev.outR_0 Ev.retS_s Ev.retS_0 Ev.pureO_s Ev.pureO_0 Ev.topR_0 Ev.topR_t Ev.topR_t0 Ev.oneL_0 Ev.oneL_s Ev.topR_d Ev.topR_nils Ev.topR_agg Ev.topR_rs Ev.evOp_move Ev.evOp_assign Ev.evOp_pick Ev.evOp_alloc Ev.evOp_box Ev.evOp_build Ev.evOp_buildSlice Ev.evOp_load Ev.evOp_store Ev.evOp_makeMap Ev.evOp_lookup Ev.evOp_mapUpdate Ev.evOp_insert Ev.evOp_nilCheck Ev.evOp_binOp Ev.evOp_unOp Ev.evOp_convert Ev.evOp_makeFunc Ev.evOp_makeSlice Ev.evOp_slice Ev.evOp_fieldAddr Ev.evOp_field Ev.evOp_indexAddr Ev.evOp_index Ev.evOp_extract Ev.evOp_call Ev.evOp_append Ev.evOp_clear Ev.evOp_len Ev.evLen_d Ev.evLen_rs Ev.evLen_nils Ev.evLen_nila Ev.evLen_mp Ev.evOp_min Ev.evOp_max Ev.condR_b Ev.condR_t Ev.evOps_nil Ev.evOps_plain Ev.evOps_guard Ev.runG_eq Ev.skipG_eq Ev.condL_tt Ev.condL_ff Ev.condL_tf Ev.condL_ft Ev.condL_u Ev.condC_t Ev.condC_f Ev.evC_skip Ev.evC_ret Ev.evC_exit Ev.evC_label Ev.evC_region Ev.evC_draw Ev.evC_seq Ev.evC_cond Ev.evC_block Ev.evC_loop Ev.fin_d Ev.fin_nila Ev.fin_nils Ev.fin_agg_ Ev.fin_rs Ev.finS_s Ev.mapO_fin Ev.upd_upd Ev.argv_d Ev.argv_nila Ev.argv_nils Ev.argv_agg Ev.argv_rs Ev.argv_p Ev.fk_low Ev.appendTo_nils Ev.appendTo_nila Ev.appendTo_rs Ev.consV_d Ev.consV_agg Ev.consV_p Ev.consV_rs Ev.consV_nila Ev.consV_nils Ev.consV_fn Ev.consV_und Ev.consV_jk Ev.consV_grown Ev.topR_grown Ev.len_grown Ev.consV_nilm Ev.consV_mp Ev.sameK_i Ev.sameK_s Ev.mget_0 Ev.mget_hit Ev.mget_miss Ev.mput_0 Ev.mput_hit Ev.mput_miss Ev.apartAll Ev.apartL Ev.apartV Ev.freeAll Ev.sel Ev.keyOfV Ev.evLookup Ev.evPut Ev.hintOk Ev.keyOk Ev.consP Ev.lookV Ev.guardV Ev.dstAt Ev.evPure Ev.evStore Ev.evBin Ev.evBinO Ev.evNil Ev.isNilC Ev.evUn Ev.evConv Ev.evSlice Ev.optI Ev.foldI Ev.capsOk Ev.noTup Ev.nth Ev.setN Ev.killAt Ev.pad Ev.V.get Ev.V.put Ev.putD Ev.newBlk Ev.upd Ev.keq Ev.empty Ev.evCall Ev.V.args Ev.argP Ev.callOf Ev.evNilP Ev.isNilP Ev.look Ev.V.view.views Ev.V.view Ev.V.toD Ev.V.toD.V.toDs Ev.V.pure.pures Ev.V.pure Ev.D.flat.flats Ev.D.flat Ev.mkAgg Ev.allD Ev.aggParts Ev.setParts Ev.setElems Ev.getPath Ev.setPath Ev.subL Ev.eqD Ev.eqD.eqDs Ev.and2 Ev.strCut Ev.evalT Ev.constT Ev.evArgs Ev.mask Ev.maskOf Ev.tableOf Ev.compT Ev.resV Ev.retV Ev.mapO Ev.eT_nils Ev.ag_t Ev.ag_f Ev.ag_0 Ev.ag_n Ev.mx_u64 Ev.mx_u32 Ev.mx_u16 Ev.mx_u8 Ev.sg_i64 Ev.sg_i32 Ev.sg_i16 Ev.sg_i8 Ev.sg_u64 Ev.sg_u32 Ev.sg_u16 Ev.sg_u8 Ev.mapE_i Ev.mapV_nil Ev.hT_nilm Ev.mget_map Ev.mput_map Ev.mapV_put Ev.mapV_half Ev.hT_nila Ev.eO_nila Ev.pL_nila Ev.evLen_gl Ev.r_nila Ev.frzO_n Ev.frzO_e Ev.frzO_r Ev.frzO_0 Ev.mb_z Ev.mb_0 Ev.mb_s Ev.frzL_t Ev.frzL_f Ev.frzL_0 Ev.frzT_nils Ev.frzT_rs Ev.frzT_p Ev.frzK_i Ev.keyIn_i Ev.rI_nil Ev.rI_cons Ev.rI_row Ev.rI_app Ev.r_d Ev.r_nils Ev.r_agg Ev.r_rs Ev.r_gl Ev.vw_row Ev.vw_app Ev.appO_s Ev.frzT_gl Ev.allD_gl Ev.killAt_i Ev.tkOne_i Ev.hT_agg Ev.hT_vagg Ev.hT_int Ev.hT_bool Ev.hT_str Ev.hT_sl Ev.hT_ptr Ev.hT_np Ev.hT_p Ev.hT_rs Ev.hT_mp Ev.hT_nils Ev.hT_fn Ev.hT_jk Ev.hT_gl Ev.eO_sl Ev.eO_nils Ev.eO_rs Ev.eT_sl Ev.eT_rs Ev.pL_str Ev.pL_sl Ev.pL_rs Ev.pL_nils Ev.pL_min Ev.pL_max Ev.len_glB Ev.noTup_gl Ev.rowV_len Ev.rowV_nil Ev.rowV_cons Ev.rowV_append Ev.rowV_set Ev.rowV_replicate Ev.nth_row Ev.row_take Ev.row_drop Ev.toDs_row Ev.fin_row Ev.map_row Ev.map_take_ Ev.map_drop_ Ev.Bk_i Ev.GlB_0 Ev.GlB_mk Ev.gl_nil Ev.gl_cons Ev.gl_snoc Ev.gl_setN Ev.appendTo_gl Ev.consV_gl Ev.elems_gl Ev.fin_gl Ev.view_gl Ev.argv_gl Ev.topR_gl Ev.sp_z Ev.sp_0 Ev.sp_s Ev.km_z Ev.km_0 Ev.km_s Ev.beq_toList Ev.nc0 Ev.bq_t Ev.bq_f Ev.bodyN Ev.le_maxRow Int.cast_ofNat_Int IntWalk.i64_in IntWalk.u64_in IntWalk.u8_in beq_self_eq_true Bool.true_beq Bool.false_beq Bool.and_true Bool.true_and Bool.false_and Bool.and_false Bool.and_self Bool.not_true Bool.not_false Bool.not_eq_true cond_true cond_false if_true if_false and_true true_and and_self decide_true decide_false Bool.or_true Bool.true_or Bool.or_false Bool.false_or List.isEmpty List.isEmpty_nil List.size_toArray List.map List.length_map List.length_cons List.length_nil Option.map Option.bind Option.getD Option.isSome List.replicate Bool.false_eq_true implies_true false_implies forall_const Array.toList Array.isEmpty List.append List.nil_append List.cons_append List.drop_zero List.take_length List.take_succ_cons List.take_zero List.take_nil List.getElem?_map List.getElem?_cons_zero List.getElem?_cons_succ List.getElem?_nil List.append_nil eq_self Int.toNat_natCast List.length_append List.length_set Nat.zero_add Nat.add_zero List.length_replicate Nat.sub_zero Option.map_some Option.map_none Int.le_refl Nat.le_refl Int.natCast_nonneg List.map_append
attribute [local go_sem_proc] Nat.reduceAdd Nat.reduceSub Nat.reduceMul Nat.reduceEqDiff Nat.reduceBEq Nat.reduceLT Nat.reduceLeDiff Nat.reducePow Int.reduceToNat Int.reduceLT Int.reduceLE Int.reduceGT Int.reduceGE Int.reduceEq Int.reduceNeg Int.reduceAdd Int.reduceSub Int.reduceMul reduceCtorEq
attribute [local go_sem_proc ↓] reduceIte
noncomputable def G_catalog_Copy (L : Nat) : Specs := [(94, s_slices_Clone_int L)]
noncomputable def T_catalog_Copy : Table := tableOf [(44, en44), (124, en124)]
theorem Go_catalog_Copy (L : Nat) (hL : L ≤ 4611686018427387904) : ∀ g s, Ev.look (G_catalog_Copy L) g = some s → SpecOk Try.prog g s := (specs_cons (ok_slices_Clone_int L hL) specs_nil)
theorem To_catalog_Copy (L : Nat) : TableOk Try.prog ((G_catalog_Copy L).map (·.1)) T_catalog_Copy := (table_cons Try.func44 (by kernel_rfl) (by kernel_rfl) (table_cons Try.func124 (by kernel_rfl) (by kernel_rfl) table_nil))
theorem lk_catalog_Copy_b (L : Nat) : Ev.look (G_catalog_Copy L) 145 = none := nr rfl
theorem tb_catalog_Copy : T_catalog_Copy 145 = none := nr rfl
theorem bs_catalog_Copy (L c lv : Nat) (xs : List V) (st : Store) : evFB Try.prog (G_catalog_Copy L) T_catalog_Copy L base c 145 xs lv st = base 145 xs lv st := evFB_b _ _ _ _ tb_catalog_Copy
theorem lk_catalog_Copy_94 (L : Nat) : Ev.look (G_catalog_Copy L) 94 = some (s_slices_Clone_int L) := nr rfl
theorem lk_catalog_Copy_124 (L : Nat) : Ev.look (G_catalog_Copy L) 124 = none := nr rfl
theorem in_catalog_Copy_124 (L c lv : Nat) (xs : List V) (st : Store) : evFB Try.prog (G_catalog_Copy L) T_catalog_Copy L base (c + 1) 124 xs lv st = clO (cloneC xs st) (outR Try.prog Try.f124.results.toList (evC Try.prog (G_catalog_Copy L) (evFB Try.prog (G_catalog_Copy L) T_catalog_Copy L base c) L en124.ms lv 0 (bodyN Try.f124) (pad xs Try.f124.ntmps) st)) := clO_i base_124 (fun hB => evFB_s (hB := hB) (hT := by rfl) (hb := by rfl) ..)
attribute [local go_sem] Ty.tk3 Ty.ik3 Ty.ek3 Ty.zv3 Ty.by3 Ty.so3 Ty.tk4 Ty.ub4 Ty.ek4 Ty.zv4 Ty.by4 Ty.so4 Ty.tk22 Ty.zv22 Ty.by22 Ty.so22 Ty.tk24 Ty.ik24 Ty.ek24 Ty.zv24 Ty.by24 Ty.so24 Ty.tk35 Ty.ct35 Ty.ek35 Ty.zv35 Ty.by35 Ty.so35 Ty.tk62 Ty.ik62 Ty.ek62 Ty.zv62 Ty.by62 Ty.so62 Ty.tk64 Ty.ct64 Ty.ek64 Ty.zv64 Ty.by64 Ty.so64 Ty.tk66 Ty.ct66 Ty.ek66 Ty.zv66 Ty.by66 Ty.so66 Ty.tk70 Ty.zv70 Ty.by70 Ty.so70 Ty.tk72 Ty.ik72 Ty.ek72 Ty.zv72 Ty.by72 Ty.so72 Ty.tk87 Ty.ct87 Ty.ek87 Ty.zv87 Ty.by87 Ty.so87 Ty.tk89 Ty.ct89 Ty.zv89 Ty.by89 Ty.so89 Ty.k22_e Ty.k35_e Ty.k64_e Ty.k66_e Ty.k70_e Ty.k87_e Ty.k89_e E.mk44_0 E.mk44_1000001 E.mk44_1000002 E.mk44_1000000 E.fz44_0 E.fi44_0 E.mk124_1000000 E.lb44_0 lk_catalog_Copy_b bs_catalog_Copy base_i mkeys_map sortedC_i Ev.clO_s Ev.clO_n Ev.cl_d Ev.cl_nils Ev.cl_nila Ev.cl_rs lk_catalog_Copy_94 lk_catalog_Copy_124 in_catalog_Copy_124 s_slices_Clone_int_run loopN loops Try.f44 Try.f124
def Q0_p_catalog_Copy_l0 (a0 : List (Int × ((Int × Int × Bool × Unit) × (Int × Int × Bool × Unit) × (Int × Int × Bool × Unit) × Unit) × (Int × Int × Bool × Unit) × (Int × Int × Bool × Unit) × (List Int) × Int × Unit)) (a2 : Int) (u : Unit) (z : Out) : Prop := ∃ env st, z = some (.exit 0, env, st) ∧ env = sp 24 0 [(3, .d (.sl 89 (a0.map k89.e)))]
abbrev Q_p_catalog_Copy_l0 (a0 : List (Int × ((Int × Int × Bool × Unit) × (Int × Int × Bool × Unit) × (Int × Int × Bool × Unit) × Unit) × (Int × Int × Bool × Unit) × (Int × Int × Bool × Unit) × (List Int) × Int × Unit)) (a2 : Int) (o : Unit) (z : Out) : Prop := Q0_p_catalog_Copy_l0 a0 a2 o z
theorem l_p_catalog_Copy_l0 (L : Nat) (hL : L ≤ 4611686018427387904) (a0 : List (Int × ((Int × Int × Bool × Unit) × (Int × Int × Bool × Unit) × (Int × Int × Bool × Unit) × Unit) × (Int × Int × Bool × Unit) × (Int × Int × Bool × Unit) × (List Int) × Int × Unit)) (a2 : Int) : ∀ (tl n : Nat) (s3 : Int) (env : List V) (st : Store) (o : Unit), tl < n → Cnt a2 s3 tl → mask (maskOf en44.ms 0) env = sp 24 0 [(3, .d (.sl 89 (a0.map k89.e))), (8, .d (.int .i64 a2)), (9, .d (.int .i64 s3))] → p_catalog_Copy_l0 L a0 tl s3  = some o →
    Q_p_catalog_Copy_l0 a0 a2 o (iter (evC Try.prog (G_catalog_Copy L) (evFB Try.prog (G_catalog_Copy L) T_catalog_Copy L base 1) L en44.ms 0 0 lb44_0) (maskOf en44.ms 0) n env st) := by
  intro tl
  induction tl with
  | zero =>
    intro n s3  env st o hn hR he  h
    obtain ⟨n, rfl⟩ : ∃ m, n = m + 1 := ⟨n - 1, by omega⟩
    have g0 := cnt_nil hR
    rw [iter, he]
    clear he
    generalize hK : iter _ _ n = K
    rw [p_catalog_Copy_l0] at h
    revert h
    rintro ⟨⟩
    simp only [go_sem, *]
    refine (⟨_, _, rfl, ?_⟩ : Q0_p_catalog_Copy_l0 _ _ _ _)
    all_goals simp only [go_sem, *]
  | succ tl ih =>
    intro n s3  env st o hn hR he  h
    obtain ⟨n, rfl⟩ : ∃ m, n = m + 1 := ⟨n - 1, by omega⟩
    replace ih : Hold _ := ih
    replace hR := cnt_s hR
    obtain ⟨g0, g1, g3, hR⟩ := hR
    rw [iter, he]
    clear he
    generalize hK : iter _ _ n = K
    rw [p_catalog_Copy_l0] at h
    revert h
    refine idx_i fun x6 c1 c2 c3 => ?_
    refine bnd_i fun r7 c4 => ?_
    intro h; cases h
def Q0_p_catalog_Copy_l1 (a11 : Int) (u : List (Int × ((Int × Int × Bool × Unit) × (Int × Int × Bool × Unit) × (Int × Int × Bool × Unit) × Unit) × (Int × Int × Bool × Unit) × (Int × Int × Bool × Unit) × (List Int) × Int × Unit)) (z : Out) : Prop := ∃ env st, z = some (.exit 0, env, st) ∧ env = sp 24 0 [(3, .rs 89 (7, 5) (st (7, 5)).ver 0 u.length true)] ∧ Bk (st (7, 5)) 89 (rowV k89.e u)
abbrev Q_p_catalog_Copy_l1 (a11 : Int) (o : List (Int × ((Int × Int × Bool × Unit) × (Int × Int × Bool × Unit) × (Int × Int × Bool × Unit) × Unit) × (Int × Int × Bool × Unit) × (Int × Int × Bool × Unit) × (List Int) × Int × Unit)) (z : Out) : Prop := Q0_p_catalog_Copy_l1 a11 o z
theorem l_p_catalog_Copy_l1 (L : Nat) (hL : L ≤ 4611686018427387904) (a11 : Int) : ∀ (tl n : Nat) (s12 : Int) (s15 : List (Int × ((Int × Int × Bool × Unit) × (Int × Int × Bool × Unit) × (Int × Int × Bool × Unit) × Unit) × (Int × Int × Bool × Unit) × (Int × Int × Bool × Unit) × (List Int) × Int × Unit)) (env : List V) (st : Store) (o : List (Int × ((Int × Int × Bool × Unit) × (Int × Int × Bool × Unit) × (Int × Int × Bool × Unit) × Unit) × (Int × Int × Bool × Unit) × (Int × Int × Bool × Unit) × (List Int) × Int × Unit)), tl < n → Cnt a11 s12 tl → mask (maskOf en44.ms 0) env = sp 24 0 [(3, .rs 89 (7, 5) (st (7, 5)).ver 0 s15.length true), (8, .d (.int .i64 a11)), (9, .d (.int .i64 s12))] → Bk (st (7, 5)) 89 (rowV k89.e s15) → p_catalog_Copy_l1 L  tl s12 s15 = some o →
    Q_p_catalog_Copy_l1 a11 o (iter (evC Try.prog (G_catalog_Copy L) (evFB Try.prog (G_catalog_Copy L) T_catalog_Copy L base 1) L en44.ms 0 0 lb44_0) (maskOf en44.ms 0) n env st) := by
  intro tl
  induction tl with
  | zero =>
    intro n s12 s15 env st o hn hR he hb0 h
    obtain ⟨n, rfl⟩ : ∃ m, n = m + 1 := ⟨n - 1, by omega⟩
    obtain ⟨be0, bv0, bl0⟩ := hb0
    have g0 := cnt_nil hR
    rw [iter, he]
    clear he
    generalize hK : iter _ _ n = K
    rw [p_catalog_Copy_l1] at h
    revert h
    rintro ⟨⟩
    simp only [go_sem, *]
    refine (⟨_, _, rfl, ?_, ?_⟩ : Q0_p_catalog_Copy_l1 _ _ _)
    all_goals simp only [go_sem, *]
  | succ tl ih =>
    intro n s12 s15 env st o hn hR he hb0 h
    obtain ⟨n, rfl⟩ : ∃ m, n = m + 1 := ⟨n - 1, by omega⟩
    obtain ⟨be0, bv0, bl0⟩ := hb0
    replace ih : Hold _ := ih
    replace hR := cnt_s hR
    obtain ⟨g0, g1, g3, hR⟩ := hR
    rw [iter, he]
    clear he
    generalize hK : iter _ _ n = K
    rw [p_catalog_Copy_l1] at h
    revert h
    refine idx_i fun x18 c1 c2 c3 => ?_
    refine bnd_i fun r19 c4 => ?_
    intro h
    simp only [go_sem, *]
    subst hK
    refine ih n (s12 + 1) (s15.set s12.toNat (x18.1, x18.2.1, x18.2.2.1, x18.2.2.2.1, r19, x18.2.2.2.2.2.1, ())) _ _ _ (by omega) hR ?_ ?_ h
    all_goals simp only [go_sem, *]
theorem e_catalog_Copy (L : Nat) (hL : L ≤ 4611686018427387904) (a0 : List (Int × ((Int × Int × Bool × Unit) × (Int × Int × Bool × Unit) × (Int × Int × Bool × Unit) × Unit) × (Int × Int × Bool × Unit) × (Int × Int × Bool × Unit) × (List Int) × Int × Unit)) (res : List (Int × ((Int × Int × Bool × Unit) × (Int × Int × Bool × Unit) × (Int × Int × Bool × Unit) × Unit) × (Int × Int × Bool × Unit) × (Int × Int × Bool × Unit) × (List Int) × Int × Unit)) (h : p_catalog_Copy L a0 = some res) : evTopB Try.prog (G_catalog_Copy L) T_catalog_Copy L base 2 44 [.sl 89 (a0.map k89.e)] = some [.sl 89 (res.map k89.e)] := by
  revert h
  unfold p_catalog_Copy evTopB
  simp only [List.map]
  rw [evFB_s (hB := by rfl) (fn := Try.f44) (msk := en44.ms) (hT := by rfl) (hb := by rfl)]
  refine cb_i (fun c1 => ?_) (fun c1 => ?_)
  · have c2 : a0.length = 0 := by have := of_decide_eq_true c1; omega
    have c3 : a0.length = 0 := by have := of_decide_eq_true c1; omega
    refine rq_i fun c4 => ?_
    refine rq_i fun c5 => ?_
    refine bnd_i fun o8 ho6 => ?_
    intro h
    simp only [go_sem, *]
    generalize hz8 : iter _ _ _ _ _ = z7
    have hq9 : Q_p_catalog_Copy_l0 a0 (a0.length : Int) o8 z7 := by
      rw [← hz8]
      refine l_p_catalog_Copy_l0 L hL a0 (a0.length : Int) _ L 0  _ _ _ c4 (cnt_00 (by decide) c5) ?_ ho6
      all_goals simp only [go_sem, *]
    clear hz8 ho6
    obtain ⟨_, st9, rfl, rfl⟩ := hq9
    revert h
    rintro ⟨⟩
    simp only [go_sem, *]
  · have c10 : 0 < a0.length := by have := of_decide_eq_false c1; omega
    have c11 : ¬ a0.length = 0 := by have := of_decide_eq_false c1; omega
    refine rq_i fun c12 => ?_
    refine rq_i fun c13 => ?_
    refine rq_i fun c14 => ?_
    refine rq_i fun c15 => ?_
    refine bnd_i fun o20 ho16 => ?_
    intro h
    simp only [go_sem, *]
    generalize hz18 : iter _ _ _ _ _ = z17
    have hq19 : Q_p_catalog_Copy_l1 (a0.length : Int) o20 z17 := by
      rw [← hz18]
      refine l_p_catalog_Copy_l1 L hL (a0.length : Int) _ L 0 a0 _ _ _ c14 (cnt_00 (by decide) c15) ?_ ?_ ho16
      all_goals simp only [go_sem, *]
    clear hz18 ho16
    obtain ⟨_, st21, rfl, rfl, ⟨k201, k202, k203⟩⟩ := hq19
    revert h
    rintro ⟨⟩
    simp only [go_sem, *]
noncomputable def s_catalog_Copy (L : Nat) : Ev.Spec := specP (cCons k70 cNil) (fun x => p_catalog_Copy L x.1) (fun r => [.sl 89 (r.map k89.e)])
theorem s_catalog_Copy_run (L : Nat) (a0 : List (Int × ((Int × Int × Bool × Unit) × (Int × Int × Bool × Unit) × (Int × Int × Bool × Unit) × Unit) × (Int × Int × Bool × Unit) × (Int × Int × Bool × Unit) × (List Int) × Int × Unit)) : (s_catalog_Copy L).run [.sl 89 (a0.map k89.e)] = (p_catalog_Copy L a0).map fun r => [.sl 89 (r.map k89.e)] := specP_run (cCons k70 cNil) (fun x => p_catalog_Copy L x.1) (fun r => [.sl 89 (r.map k89.e)]) (a0, ())
theorem ok_catalog_Copy (L : Nat) (hL : L ≤ 4611686018427387904) : SpecOk Try.prog 44 (s_catalog_Copy L) := specP_okB mixed (Go_catalog_Copy L hL) (To_catalog_Copy L) base_ok fun x r h => ⟨L, 2, e_catalog_Copy L hL x.1 r h⟩
end Go.Proofs.Ytnojehmbiceceaa.P
end
section
set_option linter.unusedVariables false
set_option linter.unusedSimpArgs false
set_option maxRecDepth 100000
namespace Go.Proofs.Ytnojehmbiceceaa.P
open Go.Ev Go.IntKind Go.Proofs.Ytnojehmbiceceaa Go.Proofs.Ytnojehmbiceceaa.Ty Go.Proofs.Ytnojehmbiceceaa.E
def p_spylaw3_CatalogRows_l0 (L : Nat) (a0 : List (Int × ((Int × Int × Bool × Unit) × (Int × Int × Bool × Unit) × (Int × Int × Bool × Unit) × Unit) × (Int × Int × Bool × Unit) × (Int × Int × Bool × Unit) × (List Int) × Int × Unit)) : List (Int × ((Int × Int × Bool × Unit) × (Int × Int × Bool × Unit) × (Int × Int × Bool × Unit) × Unit) × (Int × Int × Bool × Unit) × (Int × Int × Bool × Unit) × (List Int) × Int × Unit) → Option (Sum Unit Unit)
  | [] => some (.inl ())
  | x6 :: tl => bnd (p_catalog_CheckRow L x6.1 x6.2.1.1.1 x6.2.1.1.2.1 x6.2.1.1.2.2.1 x6.2.1.2.1.1 x6.2.1.2.1.2.1 x6.2.1.2.1.2.2.1 x6.2.1.2.2.1.1 x6.2.1.2.2.1.2.1 x6.2.1.2.2.1.2.2.1 x6.2.2.1.1 x6.2.2.1.2.1 x6.2.2.1.2.2.1 x6.2.2.2.1.1 x6.2.2.2.1.2.1 x6.2.2.2.1.2.2.1 x6.2.2.2.2.1 x6.2.2.2.2.2.1) fun r14 => bnd (p_spyref3_RowFault L x6.1 x6.2.1.1.1 x6.2.1.1.2.1 x6.2.1.1.2.2.1 x6.2.1.2.1.1 x6.2.1.2.1.2.1 x6.2.1.2.1.2.2.1 x6.2.1.2.2.1.1 x6.2.1.2.2.1.2.1 x6.2.1.2.2.1.2.2.1 x6.2.2.1.1 x6.2.2.1.2.1 x6.2.2.1.2.2.1 x6.2.2.2.1.1 x6.2.2.2.1.2.1 x6.2.2.2.1.2.2.1 x6.2.2.2.2.1 x6.2.2.2.2.2.1) fun r15 => cb (decide (r14 = r15)) (bnd (idx a0 0) fun x16 => bnd (p_catalog_Same L x6.1 x6.2.1.1.1 x6.2.1.1.2.1 x6.2.1.1.2.2.1 x6.2.1.2.1.1 x6.2.1.2.1.2.1 x6.2.1.2.1.2.2.1 x6.2.1.2.2.1.1 x6.2.1.2.2.1.2.1 x6.2.1.2.2.1.2.2.1 x6.2.2.1.1 x6.2.2.1.2.1 x6.2.2.1.2.2.1 x6.2.2.2.1.1 x6.2.2.2.1.2.1 x6.2.2.2.1.2.2.1 x6.2.2.2.2.1 x6.2.2.2.2.2.1 x16.1 x16.2.1.1.1 x16.2.1.1.2.1 x16.2.1.1.2.2.1 x16.2.1.2.1.1 x16.2.1.2.1.2.1 x16.2.1.2.1.2.2.1 x16.2.1.2.2.1.1 x16.2.1.2.2.1.2.1 x16.2.1.2.2.1.2.2.1 x16.2.2.1.1 x16.2.2.1.2.1 x16.2.2.1.2.2.1 x16.2.2.2.1.1 x16.2.2.2.1.2.1 x16.2.2.2.1.2.2.1 x16.2.2.2.2.1 x16.2.2.2.2.2.1) fun r17 => bnd (p_spyref3_SameRow L x6.1 x6.2.1.1.1 x6.2.1.1.2.1 x6.2.1.1.2.2.1 x6.2.1.2.1.1 x6.2.1.2.1.2.1 x6.2.1.2.1.2.2.1 x6.2.1.2.2.1.1 x6.2.1.2.2.1.2.1 x6.2.1.2.2.1.2.2.1 x6.2.2.1.1 x6.2.2.1.2.1 x6.2.2.1.2.2.1 x6.2.2.2.1.1 x6.2.2.2.1.2.1 x6.2.2.2.1.2.2.1 x6.2.2.2.2.1 x6.2.2.2.2.2.1 x16.1 x16.2.1.1.1 x16.2.1.1.2.1 x16.2.1.1.2.2.1 x16.2.1.2.1.1 x16.2.1.2.1.2.1 x16.2.1.2.1.2.2.1 x16.2.1.2.2.1.1 x16.2.1.2.2.1.2.1 x16.2.1.2.2.1.2.2.1 x16.2.2.1.1 x16.2.2.1.2.1 x16.2.2.1.2.2.1 x16.2.2.2.1.1 x16.2.2.2.1.2.1 x16.2.2.2.1.2.2.1 x16.2.2.2.2.1 x16.2.2.2.2.2.1) fun r18 => cb (r17 == r18) (bnd (p_catalog_Same L x6.1 x6.2.1.1.1 x6.2.1.1.2.1 x6.2.1.1.2.2.1 x6.2.1.2.1.1 x6.2.1.2.1.2.1 x6.2.1.2.1.2.2.1 x6.2.1.2.2.1.1 x6.2.1.2.2.1.2.1 x6.2.1.2.2.1.2.2.1 x6.2.2.1.1 x6.2.2.1.2.1 x6.2.2.1.2.2.1 x6.2.2.2.1.1 x6.2.2.2.1.2.1 x6.2.2.2.1.2.2.1 x6.2.2.2.2.1 x6.2.2.2.2.2.1 x6.1 x6.2.1.1.1 x6.2.1.1.2.1 x6.2.1.1.2.2.1 x6.2.1.2.1.1 x6.2.1.2.1.2.1 x6.2.1.2.1.2.2.1 x6.2.1.2.2.1.1 x6.2.1.2.2.1.2.1 x6.2.1.2.2.1.2.2.1 x6.2.2.1.1 x6.2.2.1.2.1 x6.2.2.1.2.2.1 x6.2.2.2.1.1 x6.2.2.2.1.2.1 x6.2.2.2.1.2.2.1 x6.2.2.2.2.1 x6.2.2.2.2.2.1) fun r19 => cb r19 (p_spylaw3_CatalogRows_l0 L a0 tl) (some (.inr ()))) (some (.inr ()))) (some (.inr ()))
def p_spylaw3_CatalogRows (L : Nat) (a0 : List (Int × ((Int × Int × Bool × Unit) × (Int × Int × Bool × Unit) × (Int × Int × Bool × Unit) × Unit) × (Int × Int × Bool × Unit) × (Int × Int × Bool × Unit) × (List Int) × Int × Unit)) : Option Bool := bnd (p_spylaw3_catalogs L) fun r1 => cb r1 (bnd (p_catalog_Check L a0) fun r2 => bnd (p_spyref3_RowsFault L a0) fun r3 => cb (decide (r2 = r3)) (bnd (p_catalog_Copy L a0) fun r4 => bnd (p_spyref3_SameRows L r4 a0) fun r5 => cb r5 (rq (a0.length < L) <| bnd (p_spylaw3_CatalogRows_l0 L a0 a0) fun o20 => match o20 with | (.inl o20_0) => (some true) | (.inr o20_1) => (some false)) (some false)) (some false)) (some false)
attribute [local go_sem] Ev.putR_s Ev.putR_0 Ev.thenO_s Ev.thenO_0 Ev.seqR_n Ev.seqR_e Ev.seqR_r Ev.seqR_0 Ev.blkR_e Ev.blkR_n Ev.blkR_r Ev.blkR_0 Ev.normR_s Ev.normR_0 Ev.outR_r Ev.outR_n Ev.outR_0 Ev.retS_s Ev.retS_0 Ev.pureO_s Ev.pureO_0 Ev.topR_0 Ev.topR_t Ev.topR_t0 Ev.oneL_0 Ev.oneL_s Ev.topR_d Ev.topR_nils Ev.topR_agg Ev.topR_rs Ev.evOp_move Ev.evOp_assign Ev.evOp_pick Ev.evOp_alloc Ev.evOp_box Ev.evOp_build Ev.evOp_buildSlice Ev.evOp_load Ev.evOp_store Ev.evOp_makeMap Ev.evOp_lookup Ev.evOp_mapUpdate Ev.evOp_insert Ev.evOp_nilCheck Ev.evOp_binOp Ev.evOp_unOp Ev.evOp_convert Ev.evOp_makeFunc Ev.evOp_makeSlice Ev.evOp_slice Ev.evOp_fieldAddr Ev.evOp_field Ev.evOp_indexAddr Ev.evOp_index Ev.evOp_extract Ev.evOp_call Ev.evOp_append Ev.evOp_clear Ev.evOp_len Ev.evLen_d Ev.evLen_rs Ev.evLen_nils Ev.evLen_nila Ev.evLen_mp Ev.evOp_min Ev.evOp_max Ev.condR_b Ev.condR_t Ev.evOps_nil Ev.evOps_plain Ev.evOps_guard Ev.runG_eq Ev.skipG_eq Ev.condL_tt Ev.condL_ff Ev.condL_tf Ev.condL_ft Ev.condL_u Ev.condC_t Ev.condC_f Ev.evC_skip Ev.evC_ret Ev.evC_exit Ev.evC_label Ev.evC_region Ev.evC_draw Ev.evC_seq Ev.evC_cond Ev.evC_block Ev.evC_loop Ev.fin_d Ev.fin_nila Ev.fin_nils Ev.fin_agg_ Ev.fin_rs Ev.finS_s Ev.mapO_fin Ev.upd_upd Ev.argv_d Ev.argv_nila Ev.argv_nils Ev.argv_agg Ev.argv_rs Ev.argv_p Ev.fk_low Ev.appendTo_nils Ev.appendTo_nila Ev.appendTo_rs Ev.consV_d Ev.consV_agg Ev.consV_p Ev.consV_rs Ev.consV_nila Ev.consV_nils Ev.consV_fn Ev.consV_und Ev.consV_jk Ev.consV_grown Ev.topR_grown Ev.len_grown Ev.consV_nilm Ev.consV_mp Ev.sameK_i Ev.sameK_s Ev.mget_0 Ev.mget_hit Ev.mget_miss Ev.mput_0 Ev.mput_hit Ev.mput_miss Ev.apartAll Ev.apartL Ev.apartV Ev.freeAll Ev.sel Ev.keyOfV Ev.evLookup Ev.evPut Ev.hintOk Ev.keyOk Ev.consP Ev.lookV Ev.guardV Ev.dstAt Ev.evPure Ev.evStore Ev.evBin Ev.evBinO Ev.evNil Ev.isNilC Ev.evUn Ev.evConv Ev.evSlice Ev.optI Ev.foldI Ev.capsOk Ev.noTup Ev.nth Ev.setN Ev.killAt Ev.pad Ev.V.get Ev.V.put Ev.putD Ev.newBlk Ev.upd Ev.keq Ev.empty Ev.evCall Ev.V.args Ev.argP Ev.callOf Ev.evNilP Ev.isNilP Ev.look Ev.V.view.views Ev.V.view Ev.V.toD Ev.V.toD.V.toDs Ev.V.pure.pures Ev.V.pure Ev.D.flat.flats Ev.D.flat Ev.mkAgg Ev.allD Ev.aggParts Ev.setParts Ev.setElems Ev.getPath Ev.setPath Ev.subL Ev.eqD Ev.eqD.eqDs Ev.and2 Ev.strCut Ev.evalT Ev.constT Ev.evArgs Ev.mask Ev.maskOf Ev.tableOf Ev.compT Ev.resV Ev.retV Ev.mapO Ev.eT_nils Ev.ag_t Ev.ag_f Ev.ag_0 Ev.ag_n Ev.mx_u64 Ev.mx_u32 Ev.mx_u16 Ev.mx_u8 Ev.sg_i64 Ev.sg_i32 Ev.sg_i16 Ev.sg_i8 Ev.sg_u64 Ev.sg_u32 Ev.sg_u16 Ev.sg_u8 Ev.mapE_i Ev.mapV_nil Ev.hT_nilm Ev.mget_map Ev.mput_map Ev.mapV_put Ev.mapV_half Ev.hT_nila Ev.eO_nila Ev.pL_nila Ev.evLen_gl Ev.r_nila Ev.frzO_n Ev.frzO_e Ev.frzO_r Ev.frzO_0 Ev.mb_z Ev.mb_0 Ev.mb_s Ev.frzL_t Ev.frzL_f Ev.frzL_0 Ev.frzT_nils Ev.frzT_rs Ev.frzT_p Ev.frzK_i Ev.keyIn_i Ev.rI_nil Ev.rI_cons Ev.rI_row Ev.rI_app Ev.r_d Ev.r_nils Ev.r_agg Ev.r_rs Ev.r_gl Ev.vw_row Ev.vw_app Ev.appO_s Ev.frzT_gl Ev.allD_gl Ev.killAt_i Ev.tkOne_i Ev.hT_agg Ev.hT_vagg Ev.hT_int Ev.hT_bool Ev.hT_str Ev.hT_sl Ev.hT_ptr Ev.hT_np Ev.hT_p Ev.hT_rs Ev.hT_mp Ev.hT_nils Ev.hT_fn Ev.hT_jk Ev.hT_gl Ev.eO_sl Ev.eO_nils Ev.eO_rs Ev.eT_sl Ev.eT_rs Ev.pL_str Ev.pL_sl Ev.pL_rs Ev.pL_nils Ev.pL_min Ev.pL_max Ev.len_glB Ev.noTup_gl Ev.rowV_len Ev.rowV_nil Ev.rowV_cons Ev.rowV_append Ev.rowV_set Ev.rowV_replicate Ev.nth_row Ev.row_take Ev.row_drop Ev.toDs_row Ev.fin_row Ev.map_row Ev.map_take_ Ev.map_drop_ Ev.Bk_i Ev.GlB_0 Ev.GlB_mk Ev.gl_nil Ev.gl_cons Ev.gl_snoc Ev.gl_setN Ev.appendTo_gl Ev.consV_gl Ev.elems_gl Ev.fin_gl Ev.view_gl Ev.argv_gl Ev.topR_gl Ev.sp_z Ev.sp_0 Ev.sp_s Ev.km_z Ev.km_0 Ev.km_s Ev.beq_toList Ev.nc0 Ev.bq_t Ev.bq_f Ev.bodyN Ev.le_maxRow Int.cast_ofNat_Int IntWalk.i64_in IntWalk.u64_in IntWalk.u8_in beq_self_eq_true Bool.true_beq Bool.false_beq Bool.and_true Bool.true_and Bool.false_and Bool.and_false Bool.and_self Bool.not_true Bool.not_false Bool.not_eq_true cond_true cond_false if_true if_false and_true true_and and_self decide_true decide_false Bool.or_true Bool.true_or Bool.or_false Bool.false_or List.isEmpty List.isEmpty_nil List.size_toArray List.map List.length_map List.length_cons List.length_nil Option.map Option.bind Option.getD Option.isSome List.replicate Bool.false_eq_true implies_true false_implies forall_const Array.toList Array.isEmpty List.append List.nil_append List.cons_append List.drop_zero List.take_length List.take_succ_cons List.take_zero List.take_nil List.getElem?_map List.getElem?_cons_zero List.getElem?_cons_succ List.getElem?_nil List.append_nil eq_self Int.toNat_natCast List.length_append List.length_set Nat.zero_add Nat.add_zero List.length_replicate Nat.sub_zero Option.map_some Option.map_none Int.le_refl Nat.le_refl Int.natCast_nonneg List.map_append
attribute [local go_sem_proc] Nat.reduceAdd Nat.reduceSub Nat.reduceMul Nat.reduceEqDiff Nat.reduceBEq Nat.reduceLT Nat.reduceLeDiff Nat.reducePow Int.reduceToNat Int.reduceLT Int.reduceLE Int.reduceGT Int.reduceGE Int.reduceEq Int.reduceNeg Int.reduceAdd Int.reduceSub Int.reduceMul reduceCtorEq
attribute [local go_sem_proc ↓] reduceIte
noncomputable def G_spylaw3_CatalogRows (L : Nat) : Specs := [(40, s_spylaw3_catalogs L), (41, s_catalog_Check L), (42, s_spyref3_RowsFault L), (43, s_spyref3_SameRows L), (44, s_catalog_Copy L), (45, s_catalog_CheckRow L), (46, s_spyref3_RowFault L), (47, s_catalog_Same L), (48, s_spyref3_SameRow L)]
noncomputable def T_spylaw3_CatalogRows : Table := tableOf [(10, en10)]
theorem Go_spylaw3_CatalogRows (L : Nat) (hL : L ≤ 4611686018427387904) : ∀ g s, Ev.look (G_spylaw3_CatalogRows L) g = some s → SpecOk Try.prog g s := (specs_cons (ok_spylaw3_catalogs L hL) (specs_cons (ok_catalog_Check L hL) (specs_cons (ok_spyref3_RowsFault L hL) (specs_cons (ok_spyref3_SameRows L hL) (specs_cons (ok_catalog_Copy L hL) (specs_cons (ok_catalog_CheckRow L hL) (specs_cons (ok_spyref3_RowFault L hL) (specs_cons (ok_catalog_Same L hL) (specs_cons (ok_spyref3_SameRow L hL) specs_nil)))))))))
theorem To_spylaw3_CatalogRows (L : Nat) : TableOk Try.prog ((G_spylaw3_CatalogRows L).map (·.1)) T_spylaw3_CatalogRows := (table_cons Try.func10 (by kernel_rfl) (by kernel_rfl) table_nil)
theorem lk_spylaw3_CatalogRows_40 (L : Nat) : Ev.look (G_spylaw3_CatalogRows L) 40 = some (s_spylaw3_catalogs L) := nr rfl
theorem lk_spylaw3_CatalogRows_41 (L : Nat) : Ev.look (G_spylaw3_CatalogRows L) 41 = some (s_catalog_Check L) := nr rfl
theorem lk_spylaw3_CatalogRows_42 (L : Nat) : Ev.look (G_spylaw3_CatalogRows L) 42 = some (s_spyref3_RowsFault L) := nr rfl
theorem lk_spylaw3_CatalogRows_43 (L : Nat) : Ev.look (G_spylaw3_CatalogRows L) 43 = some (s_spyref3_SameRows L) := nr rfl
theorem lk_spylaw3_CatalogRows_44 (L : Nat) : Ev.look (G_spylaw3_CatalogRows L) 44 = some (s_catalog_Copy L) := nr rfl
theorem lk_spylaw3_CatalogRows_45 (L : Nat) : Ev.look (G_spylaw3_CatalogRows L) 45 = some (s_catalog_CheckRow L) := nr rfl
theorem lk_spylaw3_CatalogRows_46 (L : Nat) : Ev.look (G_spylaw3_CatalogRows L) 46 = some (s_spyref3_RowFault L) := nr rfl
theorem lk_spylaw3_CatalogRows_47 (L : Nat) : Ev.look (G_spylaw3_CatalogRows L) 47 = some (s_catalog_Same L) := nr rfl
theorem lk_spylaw3_CatalogRows_48 (L : Nat) : Ev.look (G_spylaw3_CatalogRows L) 48 = some (s_spyref3_SameRow L) := nr rfl
attribute [local go_sem] Ty.tk3 Ty.ik3 Ty.ek3 Ty.zv3 Ty.by3 Ty.so3 Ty.tk4 Ty.ub4 Ty.ek4 Ty.zv4 Ty.by4 Ty.so4 Ty.tk22 Ty.zv22 Ty.by22 Ty.so22 Ty.tk24 Ty.ik24 Ty.ek24 Ty.zv24 Ty.by24 Ty.so24 Ty.tk27 Ty.ik27 Ty.ek27 Ty.zv27 Ty.by27 Ty.so27 Ty.tk35 Ty.ct35 Ty.ek35 Ty.zv35 Ty.by35 Ty.so35 Ty.tk62 Ty.ik62 Ty.ek62 Ty.zv62 Ty.by62 Ty.so62 Ty.tk64 Ty.ct64 Ty.ek64 Ty.zv64 Ty.by64 Ty.so64 Ty.tk66 Ty.ct66 Ty.ek66 Ty.zv66 Ty.by66 Ty.so66 Ty.tk70 Ty.zv70 Ty.by70 Ty.so70 Ty.tk72 Ty.ik72 Ty.ek72 Ty.zv72 Ty.by72 Ty.so72 Ty.tk87 Ty.ct87 Ty.ek87 Ty.zv87 Ty.by87 Ty.so87 Ty.tk89 Ty.ct89 Ty.zv89 Ty.by89 Ty.so89 Ty.k22_e Ty.k35_e Ty.k64_e Ty.k66_e Ty.k70_e Ty.k87_e Ty.k89_e E.dw10_6 E.kl10_6 E.nc10_6 E.mk10_0 E.mk10_1000001 E.mk10_1000002 E.mk10_1000000 E.fz10_0 E.fi10_0 E.lb10_0 lk_spylaw3_CatalogRows_40 lk_spylaw3_CatalogRows_41 lk_spylaw3_CatalogRows_42 lk_spylaw3_CatalogRows_43 lk_spylaw3_CatalogRows_44 lk_spylaw3_CatalogRows_45 lk_spylaw3_CatalogRows_46 lk_spylaw3_CatalogRows_47 lk_spylaw3_CatalogRows_48 s_spylaw3_catalogs_run s_catalog_Check_run s_spyref3_RowsFault_run s_spyref3_SameRows_run s_catalog_Copy_run s_catalog_CheckRow_run s_spyref3_RowFault_run s_catalog_Same_run s_spyref3_SameRow_run loopN loops Try.f10
def Q0_p_spylaw3_CatalogRows_l0 (a0 : List (Int × ((Int × Int × Bool × Unit) × (Int × Int × Bool × Unit) × (Int × Int × Bool × Unit) × Unit) × (Int × Int × Bool × Unit) × (Int × Int × Bool × Unit) × (List Int) × Int × Unit)) (u : Unit) (z : Out) : Prop := ∃ env st, z = some (.exit 0, env, st) ∧ env = sp 56 0 []
def Q1_p_spylaw3_CatalogRows_l0 (a0 : List (Int × ((Int × Int × Bool × Unit) × (Int × Int × Bool × Unit) × (Int × Int × Bool × Unit) × Unit) × (Int × Int × Bool × Unit) × (Int × Int × Bool × Unit) × (List Int) × Int × Unit)) (u : Unit) (z : Out) : Prop := ∃ env st, z = some (.ret, env, st) ∧ env = sp 56 0 [(2, .d (.bool false))]
def Q_p_spylaw3_CatalogRows_l0 (a0 : List (Int × ((Int × Int × Bool × Unit) × (Int × Int × Bool × Unit) × (Int × Int × Bool × Unit) × Unit) × (Int × Int × Bool × Unit) × (Int × Int × Bool × Unit) × (List Int) × Int × Unit)) (o : Sum Unit Unit) (z : Out) : Prop := match o with | (.inl u) => Q0_p_spylaw3_CatalogRows_l0 a0 u z | (.inr u) => Q1_p_spylaw3_CatalogRows_l0 a0 u z
theorem l_p_spylaw3_CatalogRows_l0 (L : Nat) (hL : L ≤ 4611686018427387904) (a0 : List (Int × ((Int × Int × Bool × Unit) × (Int × Int × Bool × Unit) × (Int × Int × Bool × Unit) × Unit) × (Int × Int × Bool × Unit) × (Int × Int × Bool × Unit) × (List Int) × Int × Unit)) : ∀ (tl : List (Int × ((Int × Int × Bool × Unit) × (Int × Int × Bool × Unit) × (Int × Int × Bool × Unit) × Unit) × (Int × Int × Bool × Unit) × (Int × Int × Bool × Unit) × (List Int) × Int × Unit)) (n : Nat) (s7 : Int) (env : List V) (st : Store) (o : Sum Unit Unit), tl.length < n → Rng a0 s7 tl → mask (maskOf en10.ms 0) env = sp 56 0 [(0, .d (.sl 89 (a0.map k89.e))), (21, .d (.sl 89 (a0.map k89.e))), (22, .d (.int .i64 (a0.length : Int))), (23, .d (.int .i64 s7))] → p_spylaw3_CatalogRows_l0 L a0 tl  = some o →
    Q_p_spylaw3_CatalogRows_l0 a0 o (iter (evC Try.prog (G_spylaw3_CatalogRows L) (evF Try.prog (G_spylaw3_CatalogRows L) T_spylaw3_CatalogRows L 0) L en10.ms 0 0 lb10_0) (maskOf en10.ms 0) n env st) := by
  intro tl
  induction tl with
  | nil =>
    intro n s7  env st o hn hR he  h
    obtain ⟨n, rfl⟩ : ∃ m, n = m + 1 := ⟨n - 1, by omega⟩
    have g0 := rng_nil hR
    rw [iter, he]
    clear he
    generalize hK : iter _ _ n = K
    rw [p_spylaw3_CatalogRows_l0] at h
    revert h
    rintro ⟨⟩
    simp only [go_sem, *]
    refine (⟨_, _, rfl, ?_⟩ : Q0_p_spylaw3_CatalogRows_l0 _ _ _)
    all_goals simp only [go_sem, *]
  | cons x6 tl ih =>
    intro n s7  env st o hn hR he  h
    obtain ⟨n, rfl⟩ : ∃ m, n = m + 1 := ⟨n - 1, by omega⟩
    replace ih : Hold _ := ih
    replace hR := rng_s hR
    obtain ⟨g0, g1, g2, g3, hR⟩ := hR
    rw [iter, he]
    clear he
    generalize hK : iter _ _ n = K
    rw [p_spylaw3_CatalogRows_l0] at h
    revert h
    refine bnd_i fun r14 c1 => ?_
    refine bnd_i fun r15 c2 => ?_
    refine cb_i (fun c3 => ?_) (fun c3 => ?_)
    · refine idx_i fun x16 c4 c5 c6 => ?_
      have c6 : a0[0]? = some x16 := c6
      refine bnd_i fun r17 c7 => ?_
      refine bnd_i fun r18 c8 => ?_
      refine cb_i (fun c9 => ?_) (fun c9 => ?_)
      · refine bnd_i fun r19 c10 => ?_
        refine cb_i (fun c11 => ?_) (fun c11 => ?_)
        · intro h
          simp only [go_sem, *]
          subst hK
          refine ih n (s7 + 1)  _ _ _ (by simp only [List.length_cons] at hn; omega) hR ?_ h
          all_goals simp only [go_sem, *]
        · rintro ⟨⟩
          simp only [go_sem, *]
          refine (⟨_, _, rfl, ?_⟩ : Q1_p_spylaw3_CatalogRows_l0 _ _ _)
          all_goals simp only [go_sem, *]
      · rintro ⟨⟩
        simp only [go_sem, *]
        refine (⟨_, _, rfl, ?_⟩ : Q1_p_spylaw3_CatalogRows_l0 _ _ _)
        all_goals simp only [go_sem, *]
    · rintro ⟨⟩
      simp only [go_sem, *]
      refine (⟨_, _, rfl, ?_⟩ : Q1_p_spylaw3_CatalogRows_l0 _ _ _)
      all_goals simp only [go_sem, *]
theorem e_spylaw3_CatalogRows (L : Nat) (hL : L ≤ 4611686018427387904) (a0 : List (Int × ((Int × Int × Bool × Unit) × (Int × Int × Bool × Unit) × (Int × Int × Bool × Unit) × Unit) × (Int × Int × Bool × Unit) × (Int × Int × Bool × Unit) × (List Int) × Int × Unit)) (res : Bool) (h : p_spylaw3_CatalogRows L a0 = some res) : evTop Try.prog (G_spylaw3_CatalogRows L) T_spylaw3_CatalogRows L 1 10 [.sl 89 (a0.map k89.e)] = some [.bool res] := by
  revert h
  unfold p_spylaw3_CatalogRows evTop
  simp only [List.map]
  rw [evF_s (fn := Try.f10) (msk := en10.ms) (hT := by rfl) (hb := by rfl)]
  refine bnd_i fun r1 c1 => ?_
  refine cb_i (fun c2 => ?_) (fun c2 => ?_)
  · refine bnd_i fun r2 c3 => ?_
    refine bnd_i fun r3 c4 => ?_
    refine cb_i (fun c5 => ?_) (fun c5 => ?_)
    · refine bnd_i fun r4 c6 => ?_
      refine bnd_i fun r5 c7 => ?_
      refine cb_i (fun c8 => ?_) (fun c8 => ?_)
      · refine rq_i fun c9 => ?_
        refine bnd_i fun o20 ho10 => ?_
        intro h
        simp only [go_sem, *]
        generalize hz12 : iter _ _ _ _ _ = z11
        have hq13 : Q_p_spylaw3_CatalogRows_l0 a0 o20 z11 := by
          rw [← hz12]
          refine l_p_spylaw3_CatalogRows_l0 L hL a0 a0 L 0  _ _ _ c9 (rng_0 c9 hL) ?_ ho10
          all_goals simp only [go_sem, *]
        clear hz12 ho10
        rcases o20 with o20_0 | o20_1
        · obtain ⟨_, st21, rfl, rfl⟩ := hq13
          dsimp only at h
          revert h
          rintro ⟨⟩
          simp only [go_sem, *]
        · obtain ⟨_, st22, rfl, rfl⟩ := hq13
          dsimp only at h
          revert h
          rintro ⟨⟩
          simp only [go_sem, *]
      · rintro ⟨⟩
        simp only [go_sem, *]
    · rintro ⟨⟩
      simp only [go_sem, *]
  · rintro ⟨⟩
    simp only [go_sem, *]
noncomputable def s_spylaw3_CatalogRows (L : Nat) : Ev.Spec := specP (cCons k70 cNil) (fun x => p_spylaw3_CatalogRows L x.1) (fun r => [.bool r])
theorem s_spylaw3_CatalogRows_run (L : Nat) (a0 : List (Int × ((Int × Int × Bool × Unit) × (Int × Int × Bool × Unit) × (Int × Int × Bool × Unit) × Unit) × (Int × Int × Bool × Unit) × (Int × Int × Bool × Unit) × (List Int) × Int × Unit)) : (s_spylaw3_CatalogRows L).run [.sl 89 (a0.map k89.e)] = (p_spylaw3_CatalogRows L a0).map fun r => [.bool r] := specP_run (cCons k70 cNil) (fun x => p_spylaw3_CatalogRows L x.1) (fun r => [.bool r]) (a0, ())
theorem ok_spylaw3_CatalogRows (L : Nat) (hL : L ≤ 4611686018427387904) : SpecOk Try.prog 10 (s_spylaw3_CatalogRows L) := specP_ok mixed (Go_spylaw3_CatalogRows L hL) (To_spylaw3_CatalogRows L) fun x r h => ⟨L, 1, e_spylaw3_CatalogRows L hL x.1 r h⟩
end Go.Proofs.Ytnojehmbiceceaa.P
end
