/- The row of the law OpticsAxes: for every input the call returns true. Over the evaluator's contract of the law's function. No conditions. -/
import Derived.Test.YtnopgienncmcmaaMOpticsAxes8
import Derived.Shelf.SlIterI.Sorted
import Derived.Shelf.SlIterI.Collect
import Derived.Shelf.SlIterI.Nil
import Derived.Shelf.Sort.Plain
import Derived.Shelf.Slices.In.SortNone
import Derived.Test.YtnopgienncmcmaaProg
import Derived.Test.YtnopgienncmcmaaRows
import Derived.WalkKit
import Derived.ProofKit
import Derived.OpenShut
import Derived.ShutString
import Derived.ChangeOld
import Derived.Below
import Derived.SizedLaws
import Derived.Carry
import Derived.WideShapes
import Derived.KernelRfl
section
set_option linter.unusedVariables false
namespace Go.Proofs.Ytnopgienncmcmaa.KeysP
open Go.Proofs
def laysK_ren : Go.Shelf.Ren := ⟨fun | 7 => 24 | 10 => 36 | n => n, fun | 23 => 56 | 26 => 3 | 3 => 35 | 28 => 61 | 0 => 0 | 27 => 60 | 33 => 77 | 4 => 4 | n => n, fun | n => n⟩
theorem laysK : Go.Proofs.SlLaysZI.n7 Try.prog laysK_ren := {
  mixed := by kernel_rfl
  f7 := ⟨"maps.Keys[map[int]spyglass/api.Light,int,spyglass/api.Light]", by decide, Try.func24.trans (congrArg some (by kernel_rfl))⟩
  f10 := ⟨"maps.Keys[map[int]spyglass/api.Light,int,spyglass/api.Light]$1", by decide, Try.func36.trans (congrArg some (by kernel_rfl))⟩
  t0 := Try.underlying0
  a0 := Try.isAgg0
  z0 := Try.sizeOf0
  v0 := Try.zeroValue0
  t4 := Try.underlying4
  a4 := Try.isAgg4
  z4 := Try.sizeOf4
  v4 := Try.zeroValue4
  t23 := Try.underlying56
  a23 := Try.isAgg56
  z23 := Try.sizeOf56
  v23 := Try.zeroValue56
  t26 := Try.underlying3
  a26 := Try.isAgg3
  z26 := Try.sizeOf3
  v26 := Try.zeroValue3
  t27 := Try.underlying60
  a27 := Try.isAgg60
  z27 := Try.sizeOf60
  v27 := Try.zeroValue60
  t28 := Try.underlying61
  a28 := Try.isAgg61
  z28 := Try.sizeOf61
  v28 := Try.zeroValue61
  t33 := Try.underlying77
  a33 := Try.isAgg77
  z33 := Try.sizeOf77
  v33 := Try.zeroValue77 }

def laysS_ren : Go.Shelf.Ren := ⟨fun | 6 => 23 | 8 => 34 | 9 => 35 | 11 => 53 | 13 => 55 | 12 => 54 | 23 => 74 | 24 => 75 | 14 => 65 | 15 => 66 | 16 => 67 | 17 => 68 | 18 => 69 | 19 => 70 | 20 => 71 | 21 => 72 | 22 => 73 | 25 => 79 | 26 => 80 | 27 => 81 | 28 => 82 | 29 => 83 | 30 => 84 | 31 => 87 | n => n, fun | 26 => 3 | 28 => 61 | 24 => 50 | 0 => 0 | 3 => 3 | 37 => 78 | 48 => 120 | 50 => 98 | 4 => 4 | 40 => 112 | 39 => 111 | 45 => 117 | 5 => 5 | 9 => 9 | 51 => 127 | 55 => 131 | 57 => 136 | 58 => 137 | 33 => 77 | n => n, fun | n => n⟩
theorem laysS : Go.Proofs.SlLaysZI.n6 Try.prog laysS_ren := {
  mixed := by kernel_rfl
  f6 := ⟨"slices.Sorted[int]", by decide, Try.func23.trans (congrArg some (by kernel_rfl))⟩
  f8 := ⟨"slices.Collect[int]", by decide, Try.func34.trans (congrArg some (by kernel_rfl))⟩
  f11 := ⟨"slices.AppendSeq[[]int,int]", by decide, Try.func53.trans (congrArg some (by kernel_rfl))⟩
  t0 := Try.underlying0
  a0 := Try.isAgg0
  z0 := Try.sizeOf0
  v0 := Try.zeroValue0
  t24 := Try.underlying50
  a24 := Try.isAgg50
  z24 := Try.sizeOf50
  v24 := Try.zeroValue50
  t26 := Try.underlying3
  a26 := Try.isAgg3
  z26 := Try.sizeOf3
  v26 := Try.zeroValue3
  t28 := Try.underlying61
  a28 := Try.isAgg61
  z28 := Try.sizeOf61
  v28 := Try.zeroValue61
  i26 := by kernel_rfl }

def lays189_ren : Go.Shelf.Ren := ⟨fun | 189 => 35 | 125 => 55 | 257 => 54 | 128 => 74 | 129 => 75 | 294 => 65 | 295 => 66 | 296 => 67 | 297 => 68 | 298 => 69 | 299 => 70 | 216 => 71 | 300 => 72 | 301 => 73 | 328 => 79 | 329 => 80 | 330 => 81 | 331 => 82 | 332 => 83 | 215 => 84 | 343 => 87 | n => n, fun | 28 => 50 | 3 => 3 | 46 => 78 | 0 => 0 | 51 => 120 | 53 => 98 | 4 => 4 | 183 => 112 | 182 => 111 | 131 => 117 | 5 => 5 | 9 => 9 | 218 => 127 | 222 => 131 | 228 => 136 | 229 => 137 | n => n, fun | n => n⟩
theorem lays189 : Go.Proofs.Lays.n189 Try.prog lays189_ren := {
  mixed := by kernel_rfl
  f125 := Try.func55.trans (congrArg some (by kernel_rfl))
  f128 := Try.func74.trans (congrArg some (by kernel_rfl))
  f129 := Try.func75.trans (congrArg some (by kernel_rfl))
  f189 := Try.func35.trans (congrArg some (by kernel_rfl))
  f215 := Try.func84.trans (congrArg some (by kernel_rfl))
  f216 := Try.func71.trans (congrArg some (by kernel_rfl))
  f257 := Try.func54.trans (congrArg some (by kernel_rfl))
  f294 := Try.func65.trans (congrArg some (by kernel_rfl))
  f295 := Try.func66.trans (congrArg some (by kernel_rfl))
  f296 := Try.func67.trans (congrArg some (by kernel_rfl))
  f297 := Try.func68.trans (congrArg some (by kernel_rfl))
  f298 := Try.func69.trans (congrArg some (by kernel_rfl))
  f299 := Try.func70.trans (congrArg some (by kernel_rfl))
  f300 := Try.func72.trans (congrArg some (by kernel_rfl))
  f301 := Try.func73.trans (congrArg some (by kernel_rfl))
  f328 := Try.func79.trans (congrArg some (by kernel_rfl))
  f329 := Try.func80.trans (congrArg some (by kernel_rfl))
  f330 := Try.func81.trans (congrArg some (by kernel_rfl))
  f331 := Try.func82.trans (congrArg some (by kernel_rfl))
  f332 := Try.func83.trans (congrArg some (by kernel_rfl))
  f343 := Try.func87.trans (congrArg some (by kernel_rfl))
  t0 := Try.underlying0
  a0 := Try.isAgg0
  z0 := Try.sizeOf0
  v0 := Try.zeroValue0
  t3 := Try.underlying3
  a3 := Try.isAgg3
  z3 := Try.sizeOf3
  v3 := Try.zeroValue3
  t4 := Try.underlying4
  a4 := Try.isAgg4
  z4 := Try.sizeOf4
  v4 := Try.zeroValue4
  t5 := Try.underlying5
  a5 := Try.isAgg5
  z5 := Try.sizeOf5
  v5 := Try.zeroValue5
  t9 := Try.underlying9
  a9 := Try.isAgg9
  z9 := Try.sizeOf9
  v9 := Try.zeroValue9
  t28 := Try.underlying50
  a28 := Try.isAgg50
  z28 := Try.sizeOf50
  v28 := Try.zeroValue50
  t46 := Try.underlying78
  a46 := Try.isAgg78
  z46 := Try.sizeOf78
  v46 := Try.zeroValue78
  t51 := Try.underlying120
  a51 := Try.isAgg120
  z51 := Try.sizeOf120
  v51 := Try.zeroValue120
  t53 := Try.underlying98
  a53 := Try.isAgg98
  z53 := Try.sizeOf98
  v53 := Try.zeroValue98
  t131 := Try.underlying117
  a131 := Try.isAgg117
  z131 := Try.sizeOf117
  v131 := Try.zeroValue117
  t182 := Try.underlying111
  a182 := Try.isAgg111
  z182 := Try.sizeOf111
  v182 := Try.zeroValue111
  t183 := Try.underlying112
  a183 := Try.isAgg112
  z183 := Try.sizeOf112
  v183 := Try.zeroValue112
  t218 := Try.underlying127
  a218 := Try.isAgg127
  z218 := Try.sizeOf127
  v218 := Try.zeroValue127
  t222 := Try.underlying131
  a222 := Try.isAgg131
  z222 := Try.sizeOf131
  v222 := Try.zeroValue131
  t228 := Try.underlying136
  a228 := Try.isAgg136
  z228 := Try.sizeOf136
  v228 := Try.zeroValue136
  t229 := Try.underlying137
  a229 := Try.isAgg137
  z229 := Try.sizeOf137
  v229 := Try.zeroValue137 }

theorem sort_ok : Go.Ev.SortOk Try.prog 35 := ⟨⟨_, Try.func35, by kernel_rfl, by kernel_rfl⟩, fun blk off cap zs w hH hb hl => Any.slices_Sort_int lays189 blk off cap zs w hH hb hl, fun p cap w => Any.slices_Sort_int_none lays189 p cap w⟩
theorem sorts (m : Nat) : AnyZI.SortsIn Try.prog laysS_ren Fence.wide m :=
  ⟨fun blk off cap ss W hH hblk hsz => callsIn_wide.2 (Any.slices_Sort_int lays189 blk off cap ss W hH hblk hsz),
   fun p cap W => callsIn_wide.2 (Any.slices_Sort_int_none lays189 p cap W)⟩
theorem isort_eq {ns ss : List Int} (h : ss.Perm ns) : ss.mergeSort (fun x y => decide (x ≤ y)) = Go.Ev.isort ns := by
  rw [mergeSort_of_perm_i (h.trans (Go.Ev.isort_perm ns).symm)]
  refine List.mergeSort_of_pairwise ?_
  exact (Go.Ev.isort_sorted ns).imp fun hab => by simpa using hab
def R0 : Value → Option (DataW Unit × List MemPlace) := fun _ => some (.nil, [])
theorem keys_ok : Go.Ev.SortedOk Try.prog 23 36 3 := ⟨⟨_, Try.func23, by kernel_rfl, by kernel_rfl⟩, fun b r es clock ns w hcell hr hst hkeys hwf hby => by
  have hbw : b < w.heap.size := World.block_lt_of_cell? w _ hcell
  have hu : Try.prog.underlying 3 = some (.int .i64) := by kernel_rfl
  have hlen : es.size = ns.length := by have := congrArg List.length hkeys; simpa using this
  have hkey : ∀ x ∈ es.toList, ∃ n ∈ ns, x.key = Value.int .i64 n := by
    intro x hx
    have : x.key ∈ es.toList.map (·.key) := List.mem_map_of_mem hx
    rw [hkeys] at this
    obtain ⟨n, h1, h2⟩ := List.mem_map.1 this
    exact ⟨n, h1, h2.symm⟩
  have hlit : ∀ n, Go.Ev.inI64 n = true → (Lit.int .i64 n).wf = true := by
    intro n hn
    simp only [Go.Ev.inI64, Bool.and_eq_true, decide_eq_true_eq] at hn
    have h1 : IntKind.i64.min = -9223372036854775808 := by decide
    have h2 : IntKind.i64.max = 9223372036854775807 := by decide
    simp only [Lit.wf, Bool.and_eq_true, decide_eq_true_eq, h1, h2]
    omega
  have hrd : ∀ x ∈ es.toList, ∃ n ∈ ns, x.key = Value.int .i64 n ∧ Go.WideElems.rd Try.prog 3 R0 x = some (.int .i64 n, .nil) := by
    intro x hx
    obtain ⟨n, h1, h2⟩ := hkey x hx
    refine ⟨n, h1, h2, ?_⟩
    simp only [Go.WideElems.rd, h2, Go.Maps.keyOf_int_mk hu (hlit n (hwf n h1)), R0]
    rfl
  have F : Go.WideElems.Fit Try.prog 3 R0 es clock := ⟨by rw [hlen]; have : 17592186044416 ≤ maxLen := (by decide); omega, hst, fun x hx => by obtain ⟨n, _, _, h⟩ := hrd x hx; exact ⟨_, h⟩⟩
  have hown : w.ownsMap Try.prog 3 R0 r es.size (.map ((es.toList.map (Go.WideElems.rg Try.prog 3 R0)).foldr DataW.insert [])) := ⟨es, clock, hr, F, Nat.le_refl _, rfl⟩
  have hperm : (intKeys (H := Unit) (.map ((es.toList.map (Go.WideElems.rg Try.prog 3 R0)).foldr DataW.insert []))).Perm ns := by
    have h1 := (Go.WideShapes.sorted_perm (es.toList.map (Go.WideElems.rg Try.prog 3 R0))).map fun p => _root_.Go.intOf p.1
    refine h1.trans ?_
    have h2 : (es.toList.map (Go.WideElems.rg Try.prog 3 R0)).map (fun p => _root_.Go.intOf p.1) = ns := by
      have h3 : ∀ (l : List MapEntry) (ms : List Int), (∀ x ∈ l, x ∈ es.toList) → l.map (·.key) = ms.map (Value.int .i64) → (l.map (Go.WideElems.rg Try.prog 3 R0)).map (fun p => _root_.Go.intOf p.1) = ms := by
        intro l
        induction l with
        | nil => intro ms _ h; cases ms with
          | nil => rfl
          | cons _ _ => cases h
        | cons x l ih =>
          intro ms hm h
          cases ms with
          | nil => cases h
          | cons m ms =>
            obtain ⟨h4, h5⟩ : x.key = Value.int .i64 m ∧ l.map (·.key) = ms.map (Value.int .i64) := by simpa only [List.map_cons, List.cons.injEq] using h
            obtain ⟨n, _, h6, h7⟩ := hrd x (hm x (by simp))
            have : n = m := by rw [h6] at h4; exact (Value.int.injEq .. ▸ h4 : _ ∧ _).2
            subst this
            have h8 := ih ms (fun y hy => hm y (by simp [hy])) h5
            simp only [List.map_cons, Go.WideElems.rg_of h7, h8]
            rfl
      exact h3 es.toList ns (fun _ h => h) hkeys
    rw [h2]
  have hsize : Go.Maps.size (H := Unit) (.map ((es.toList.map (Go.WideElems.rg Try.prog 3 R0)).foldr DataW.insert [])) = ns.length := by
    rw [Go.Maps.size_eq, DataW.length_sorted, List.length_map, Array.length_toList, hlen]
  have hseq := AnyZI.keys_gives (ρ := laysK_ren) { laysK with } Fence.wide 2 trivial rfl (by omega) b r es.size _ w hbw hcell hown
  have cS := AnyZI.sorted_in laysS Fence.wide 5 trivial trivial trivial trivial rfl (by omega) (sorts _) (enters_of Try.func35 (by kernel_rfl) rfl) 36 #[.pointer (some ⟨b, 0, none⟩)] trivial (enters_of Try.func36 (by kernel_rfl) rfl) _ _ (by rw [hsize]; have : 17592186044416 ≤ maxLen := (by decide); omega) (by rw [hsize]; exact hby) _ hseq
  refine (callsIn_wide (n := 5)).1 (cS.mono ?_)
  rintro ex w' ⟨v, ss, rfl, hS, hrow, hnil, hb⟩
  have hss := hS.trans hperm
  refine ⟨v, rfl, ?_, hb⟩
  rw [isort_eq hss, hss.length_eq] at hrow
  exact hrow, fun b w hcell => by
  have hbw : b < w.heap.size := World.block_lt_of_cell? w _ hcell
  have hseq := AnyZI.keys_gives_nil (ρ := laysK_ren) { laysK with } Fence.wide 2 trivial rfl b w hbw hcell
  have cS := AnyZI.sorted_in laysS Fence.wide 5 trivial trivial trivial trivial rfl (by omega) (sorts _) (enters_of Try.func35 (by kernel_rfl) rfl) 36 #[.pointer (some ⟨b, 0, none⟩)] trivial (enters_of Try.func36 (by kernel_rfl) rfl) _ _ (Nat.zero_le _) (by omega) _ hseq
  refine (callsIn_wide (n := 5)).1 (cS.mono ?_)
  rintro ex w' ⟨v, ss, rfl, hS, hrow, hnil, hb⟩
  have hS' : ss = [] := hS
  subst hS'
  refine ⟨v, rfl, ?_, hb⟩
  have hrow' : w'.ownsRow w.heap.size 3 1 v 0 (([] : List Int).mergeSort (fun x y => decide (x ≤ y)) |>.map encZ) := hrow
  simpa using hrow'⟩
#print axioms keys_ok
end Go.Proofs.Ytnopgienncmcmaa.KeysP
end
section
namespace Go.Proofs.Ytnopgienncmcmaa.P
open Go.Ev
noncomputable def base : Caller := orC (sortC Try.prog 35) (sortedC Try.prog 23 36 3)
theorem base_ok : CallerOk Try.prog base := orC_ok (sortC_ok Go.Proofs.Ytnopgienncmcmaa.KeysP.sort_ok) (sortedC_ok Go.Proofs.Ytnopgienncmcmaa.KeysP.keys_ok)
theorem base_i (xs : List V) (lv : Nat) (st : Store) : base 23 [.fn 36 xs] lv st = sortedC Try.prog 23 36 3 23 [.fn 36 xs] lv st := nr rfl
theorem mkeys_map {α : Type} (f : α → D) : ∀ l : List (Int × α), mkeys (mapV f l) = some (l.map (·.1))
  | [] => rfl
  | p :: r => by simp only [mapV, mkeys, mkeys_map f r, List.map_cons]
theorem sortedC_i (kb : Key) (vb i : Nat) (path : List (TypeId × Nat)) (lv : Nat) (st : Store) : sortedC Try.prog 23 36 3 23 [.fn 36 [.p kb vb i path]] lv st =
  if 23 = 23 ∧ 36 = 36 ∧ i = 0 ∧ path = [] ∧ (st kb).ver = vb ∧ (st kb).live = true ∧ szOf Try.prog (st kb).e = 1 ∧ szOf Try.prog 3 = 1 then match (st kb).vs with
    | [.nilm] => some (.d (.sl 3 []), st)
    | [.mp km vm] => if (st km).ver = vm ∧ (st km).live = true then match mkeys (st km).vs with
      | some ns => if ns.all inI64 = true ∧ ns.length * 8 ≤ maxRow then some (.d (.sl 3 ((isort ns).map (D.int .i64))), st) else none
      | none => none
      else none
    | _ => none
    else none := nr rfl
end Go.Proofs.Ytnopgienncmcmaa.P
end
section
set_option linter.unusedVariables false
set_option linter.unusedSimpArgs false
set_option maxRecDepth 100000
set_option maxHeartbeats 4000000
namespace Go.Proofs.Ytnopgienncmcmaa.P
open Go.Ev Go.IntKind Go.Proofs.Ytnopgienncmcmaa Go.Proofs.Ytnopgienncmcmaa.Ty Go.Proofs.Ytnopgienncmcmaa.E
def p_spyref3_Parts_l0 (L : Nat)  : Nat → Int → Option Unit
  | 0, s3 => some ()
  | tl + 1, s3 => bnd (idx ([] : List Int) s3) fun x6 => none
def p_spyref3_Parts_l2 (L : Nat) (a1 : Int) (a19 : Int) : Nat → Int → (List (Int × Int)) → Option (List (Int × Int))
  | 0, _, _ => none
  | tl + 1, s23, s24 => if s23 < (i64.wrap (16 * a1)) then (mc (mapG s24 (shrI .i64 (i64.wrap (a19 + s23)) 4)) (fun m26 => rq (¬ (i64.wrap (a1 * a1)) = 0) <| p_spyref3_Parts_l2 L a1 a19 tl (i64.wrap (s23 + 1)) (mapP s24 (shrI .i64 (i64.wrap (a19 + s23)) 4) (i64.wrap (m26 + (i64.wrap ((i64.wrap ((i64.wrap ((i64.wrap (16 * a1)) - (maxI s23 (i64.wrap (0 - s23))))) * 16)).tdiv (i64.wrap (a1 * a1)))))))) (rq (¬ (i64.wrap (a1 * a1)) = 0) <| p_spyref3_Parts_l2 L a1 a19 tl (i64.wrap (s23 + 1)) (mapP s24 (shrI .i64 (i64.wrap (a19 + s23)) 4) (i64.wrap (0 + (i64.wrap ((i64.wrap ((i64.wrap ((i64.wrap (16 * a1)) - (maxI s23 (i64.wrap (0 - s23))))) * 16)).tdiv (i64.wrap (a1 * a1))))))))) else (some s24)
def p_spyref3_Parts_l3 (L : Nat) (o27 : List (Int × Int)) : List Int → (List (Int × Int × Unit)) → Option (List (Int × Int × Unit))
  | [], s33 => some s33
  | x29 :: tl, s33 => mc (mapG o27 x29) (fun m35 => rq (s33.length + 1 ≤ maxRow) <| rq ((s33.length + 1) * 16 ≤ maxRow) <| p_spyref3_Parts_l3 L o27 tl (s33 ++ [(x29, m35, ())])) (rq (s33.length + 1 ≤ maxRow) <| rq ((s33.length + 1) * 16 ≤ maxRow) <| p_spyref3_Parts_l3 L o27 tl (s33 ++ [(x29, 0, ())]))
def p_spyref3_Parts_l4 (L : Nat)  : Nat → Int → Option Unit
  | 0, s40 => some ()
  | tl + 1, s40 => bnd (idx ([] : List Int) s40) fun x43 => none
def p_spyref3_Parts (L : Nat) (a0 : Int) (a1 : Int) : Option ((List (Int × Int × Unit)) × Int) := if a0 < (-65536) then (rq ((([] : List Int).length : Int).toNat < L) <| rq ((([] : List Int).length : Int) < 4611686018427387904) <| bnd (p_spyref3_Parts_l0 L (([] : List Int).length : Int).toNat 0) fun o7 => some (([] : List (Int × Int × Unit)), 4)) else (if a0 > 65536 then (rq ((([] : List Int).length : Int).toNat < L) <| rq ((([] : List Int).length : Int) < 4611686018427387904) <| bnd (p_spyref3_Parts_l0 L (([] : List Int).length : Int).toNat 0) fun o15 => some (([] : List (Int × Int × Unit)), 4)) else (bnd (p_spyref3_half L a1) fun r17 => cb r17 (bnd (p_spyref3_Parts_l2 L a1 (shrI .i64 a0 4) L (i64.wrap (1 - (i64.wrap (16 * a1)))) ([] : List (Int × Int))) fun o27 => rq ((o27.map (·.1)).all inI64 = true) <| rq (o27.length * 8 ≤ maxRow) <| rq ((isort (o27.map (·.1))).length < L) <| bnd (p_spyref3_Parts_l3 L o27 (isort (o27.map (·.1))) ([])) fun o36 => some (o36, 0)) (rq ((([] : List Int).length : Int).toNat < L) <| rq ((([] : List Int).length : Int) < 4611686018427387904) <| bnd (p_spyref3_Parts_l4 L (([] : List Int).length : Int).toNat 0) fun o44 => some (([] : List (Int × Int × Unit)), 1))))
attribute [local go_sem] Ev.putR_s Ev.putR_0 Ev.thenO_s Ev.thenO_0 Ev.seqR_n Ev.seqR_e Ev.seqR_r Ev.seqR_0 Ev.blkR_e Ev.blkR_n Ev.blkR_r Ev.blkR_0 Ev.normR_s Ev.normR_0 Ev.outR_r Ev.outR_n Ev.outR_0 Ev.retS_s Ev.retS_0 Ev.pureO_s Ev.pureO_0 Ev.topR_0 Ev.topR_t Ev.topR_t0 Ev.oneL_0 Ev.oneL_s Ev.topR_d Ev.topR_nils Ev.topR_agg Ev.topR_rs Ev.evOp_move Ev.evOp_assign Ev.evOp_pick Ev.evOp_alloc Ev.evOp_box Ev.evOp_build Ev.evOp_buildSlice Ev.evOp_load Ev.evOp_store Ev.evOp_makeMap Ev.evOp_lookup Ev.evOp_mapUpdate Ev.evOp_insert Ev.evOp_nilCheck Ev.evOp_binOp Ev.evOp_unOp Ev.evOp_convert Ev.evOp_makeFunc Ev.evOp_makeSlice Ev.evOp_slice Ev.evOp_fieldAddr Ev.evOp_field Ev.evOp_indexAddr Ev.evOp_index Ev.evOp_extract Ev.evOp_call Ev.evOp_append Ev.evOp_clear Ev.evOp_len Ev.evLen_d Ev.evLen_rs Ev.evLen_nils Ev.evLen_nila Ev.evLen_mp Ev.evOp_min Ev.evOp_max Ev.condR_b Ev.condR_t Ev.evOps_nil Ev.evOps_plain Ev.evOps_guard Ev.runG_eq Ev.skipG_eq Ev.condL_tt Ev.condL_ff Ev.condL_tf Ev.condL_ft Ev.condL_u Ev.condC_t Ev.condC_f Ev.evC_skip Ev.evC_ret Ev.evC_exit Ev.evC_label Ev.evC_region Ev.evC_draw Ev.evC_seq Ev.evC_cond Ev.evC_block Ev.evC_loop Ev.fin_d Ev.fin_nila Ev.fin_nils Ev.fin_agg_ Ev.fin_rs Ev.finS_s Ev.mapO_fin Ev.upd_upd Ev.argv_d Ev.argv_nila Ev.argv_nils Ev.argv_agg Ev.argv_rs Ev.argv_p Ev.fk_low Ev.appendTo_nils Ev.appendTo_nila Ev.appendTo_rs Ev.consV_d Ev.consV_agg Ev.consV_p Ev.consV_rs Ev.consV_nila Ev.consV_nils Ev.consV_fn Ev.consV_und Ev.consV_jk Ev.consV_grown Ev.topR_grown Ev.len_grown Ev.consV_nilm Ev.consV_mp Ev.sameK_i Ev.sameK_s Ev.mget_0 Ev.mget_hit Ev.mget_miss Ev.mput_0 Ev.mput_hit Ev.mput_miss Ev.apartAll Ev.apartL Ev.apartV Ev.freeAll Ev.sel Ev.keyOfV Ev.evLookup Ev.evPut Ev.hintOk Ev.keyOk Ev.consP Ev.lookV Ev.guardV Ev.dstAt Ev.evPure Ev.evStore Ev.evBin Ev.evBinO Ev.evNil Ev.isNilC Ev.evUn Ev.evConv Ev.evSlice Ev.optI Ev.foldI Ev.capsOk Ev.noTup Ev.nth Ev.setN Ev.killAt Ev.pad Ev.V.get Ev.V.put Ev.putD Ev.newBlk Ev.upd Ev.keq Ev.empty Ev.evCall Ev.V.args Ev.argP Ev.callOf Ev.evNilP Ev.isNilP Ev.look Ev.V.view.views Ev.V.view Ev.V.toD Ev.V.toD.V.toDs Ev.V.pure.pures Ev.V.pure Ev.D.flat.flats Ev.D.flat Ev.mkAgg Ev.allD Ev.aggParts Ev.setParts Ev.setElems Ev.getPath Ev.setPath Ev.subL Ev.eqD Ev.eqD.eqDs Ev.and2 Ev.strCut Ev.evalT Ev.constT Ev.evArgs Ev.mask Ev.maskOf Ev.tableOf Ev.compT Ev.resV Ev.retV Ev.mapO Ev.mx_u64 Ev.mx_u32 Ev.mx_u16 Ev.mx_u8 Ev.sg_i64 Ev.sg_i32 Ev.sg_i16 Ev.sg_i8 Ev.sg_u64 Ev.sg_u32 Ev.sg_u16 Ev.sg_u8 Ev.mapE_i Ev.mapV_nil Ev.hT_nilm Ev.mget_map Ev.mput_map Ev.mapV_put Ev.mapV_half Ev.hT_nila Ev.eO_nila Ev.pL_nila Ev.evLen_gl Ev.r_nila Ev.frzO_n Ev.frzO_e Ev.frzO_r Ev.frzO_0 Ev.mb_z Ev.mb_0 Ev.mb_s Ev.frzL_t Ev.frzL_f Ev.frzL_0 Ev.frzT_nils Ev.frzT_rs Ev.frzT_p Ev.frzK_i Ev.keyIn_i Ev.rI_nil Ev.rI_cons Ev.rI_row Ev.rI_app Ev.r_d Ev.r_nils Ev.r_agg Ev.r_rs Ev.r_gl Ev.vw_row Ev.vw_app Ev.appO_s Ev.frzT_gl Ev.allD_gl Ev.killAt_i Ev.tkOne_i Ev.hT_agg Ev.hT_vagg Ev.hT_int Ev.hT_bool Ev.hT_str Ev.hT_sl Ev.hT_ptr Ev.hT_np Ev.hT_p Ev.hT_rs Ev.hT_mp Ev.hT_nils Ev.hT_fn Ev.hT_jk Ev.hT_gl Ev.eO_sl Ev.eO_nils Ev.eO_rs Ev.eT_sl Ev.eT_rs Ev.pL_str Ev.pL_sl Ev.pL_rs Ev.pL_nils Ev.pL_min Ev.pL_max Ev.len_glB Ev.noTup_gl Ev.rowV_len Ev.rowV_nil Ev.rowV_cons Ev.rowV_append Ev.rowV_set Ev.rowV_replicate Ev.nth_row Ev.row_take Ev.row_drop Ev.toDs_row Ev.fin_row Ev.map_row Ev.map_take_ Ev.map_drop_ Ev.Bk_i Ev.GlB_0 Ev.GlB_mk Ev.gl_nil Ev.gl_cons Ev.gl_snoc Ev.gl_setN Ev.appendTo_gl Ev.consV_gl Ev.elems_gl Ev.fin_gl Ev.view_gl Ev.argv_gl Ev.topR_gl Ev.sp_z Ev.sp_0 Ev.sp_s Ev.km_z Ev.km_0 Ev.km_s Ev.beq_toList Ev.nc0 Ev.bq_t Ev.bq_f Ev.bodyN Ev.le_maxRow Int.cast_ofNat_Int IntWalk.i64_in IntWalk.u64_in IntWalk.u8_in beq_self_eq_true Bool.true_beq Bool.false_beq Bool.and_true Bool.true_and Bool.false_and Bool.and_false Bool.and_self Bool.not_true Bool.not_false Bool.not_eq_true cond_true cond_false if_true if_false and_true true_and and_self decide_true decide_false Bool.or_true Bool.true_or Bool.or_false Bool.false_or List.isEmpty List.isEmpty_nil List.size_toArray List.map List.length_map List.length_cons List.length_nil Option.map Option.bind Option.getD Option.isSome List.replicate Bool.false_eq_true implies_true false_implies forall_const Array.toList Array.isEmpty List.append List.nil_append List.cons_append List.drop_zero List.take_length List.take_succ_cons List.take_zero List.take_nil List.getElem?_map List.getElem?_cons_zero List.getElem?_cons_succ List.getElem?_nil List.append_nil eq_self Int.toNat_natCast List.length_append Nat.zero_add Nat.add_zero List.length_replicate Nat.sub_zero Option.map_some Option.map_none Int.le_refl Nat.le_refl Int.natCast_nonneg List.map_append
attribute [local go_sem_proc] Nat.reduceAdd Nat.reduceSub Nat.reduceMul Nat.reduceEqDiff Nat.reduceBEq Nat.reduceLT Nat.reduceLeDiff Nat.reducePow Int.reduceToNat Int.reduceLT Int.reduceLE Int.reduceGT Int.reduceGE Int.reduceEq Int.reduceNeg Int.reduceAdd Int.reduceSub Int.reduceMul reduceCtorEq
attribute [local go_sem_proc ↓] reduceIte
noncomputable def G_spyref3_Parts (L : Nat) : Specs := [(33, s_spyref3_half L)]
noncomputable def T_spyref3_Parts : Table := tableOf [(10, en10), (22, en22), (24, en24)]
theorem Go_spyref3_Parts (L : Nat) (hL : L ≤ 4611686018427387904) : ∀ g s, Ev.look (G_spyref3_Parts L) g = some s → SpecOk Try.prog g s := (specs_cons (ok_spyref3_half L hL) specs_nil)
theorem To_spyref3_Parts (L : Nat) : TableOk Try.prog ((G_spyref3_Parts L).map (·.1)) T_spyref3_Parts := (table_cons Try.func10 (by kernel_rfl) (by kernel_rfl) (table_cons Try.func22 (by kernel_rfl) (by kernel_rfl) (table_cons Try.func24 (by kernel_rfl) (by kernel_rfl) table_nil)))
theorem lk_spyref3_Parts_b (L : Nat) : Ev.look (G_spyref3_Parts L) 23 = none := nr rfl
theorem tb_spyref3_Parts : T_spyref3_Parts 23 = none := nr rfl
theorem bs_spyref3_Parts (L c lv : Nat) (xs : List V) (st : Store) : evFB Try.prog (G_spyref3_Parts L) T_spyref3_Parts L base c 23 xs lv st = base 23 xs lv st := evFB_b _ _ _ _ tb_spyref3_Parts
theorem lk_spyref3_Parts_33 (L : Nat) : Ev.look (G_spyref3_Parts L) 33 = some (s_spyref3_half L) := nr rfl
theorem lk_spyref3_Parts_22 (L : Nat) : Ev.look (G_spyref3_Parts L) 22 = none := nr rfl
theorem in_spyref3_Parts_22 (L c lv : Nat) (xs : List V) (st : Store) : evFB Try.prog (G_spyref3_Parts L) T_spyref3_Parts L base (c + 1) 22 xs lv st = outR Try.prog Try.f22.results.toList (evC Try.prog (G_spyref3_Parts L) (evFB Try.prog (G_spyref3_Parts L) T_spyref3_Parts L base c) L en22.ms lv 0 (bodyN Try.f22) (pad xs Try.f22.ntmps) st) := evFB_s (hT := by rfl) (hb := by rfl) ..
theorem lk_spyref3_Parts_24 (L : Nat) : Ev.look (G_spyref3_Parts L) 24 = none := nr rfl
theorem in_spyref3_Parts_24 (L c lv : Nat) (xs : List V) (st : Store) : evFB Try.prog (G_spyref3_Parts L) T_spyref3_Parts L base (c + 1) 24 xs lv st = outR Try.prog Try.f24.results.toList (evC Try.prog (G_spyref3_Parts L) (evFB Try.prog (G_spyref3_Parts L) T_spyref3_Parts L base c) L en24.ms lv 0 (bodyN Try.f24) (pad xs Try.f24.ntmps) st) := evFB_s (hT := by rfl) (hb := by rfl) ..
attribute [local go_sem] Ty.tk3 Ty.ik3 Ty.ek3 Ty.zv3 Ty.by3 Ty.so3 Ty.tk4 Ty.ub4 Ty.ek4 Ty.zv4 Ty.by4 Ty.so4 Ty.tk24 Ty.ik24 Ty.ek24 Ty.zv24 Ty.by24 Ty.so24 Ty.tk30 Ty.ik30 Ty.ek30 Ty.zv30 Ty.by30 Ty.so30 Ty.tk31 Ty.zv31 Ty.by31 Ty.so31 Ty.tk35 Ty.ik35 Ty.ek35 Ty.zv35 Ty.by35 Ty.so35 Ty.tk37 Ty.ct37 Ty.ek37 Ty.zv37 Ty.by37 Ty.so37 Ty.tk50 Ty.zv50 Ty.by50 Ty.so50 Ty.tk56 Ty.mt56 Ty.sm56 Ty.zw56_35 Ty.zv56 Ty.by56 Ty.so56 Ty.tk60 Ty.zv60 Ty.by60 Ty.so60 Ty.tk61 Ty.zv61 Ty.by61 Ty.so61 Ty.tk78 Ty.ik78 Ty.ek78 Ty.zv78 Ty.by78 Ty.so78 Ty.k31_e Ty.k37_e Ty.k50_e E.mk10_0 E.mk10_1000001 E.mk10_1000002 E.mk10_1000000 E.fz10_0 E.fi10_0 E.dw22_10 E.kl22_10 E.nc22_10 E.mk22_0 E.mk22_1000001 E.mk22_1000002 E.mk22_1000000 E.fz22_0 E.fi22_0 E.mk24_1000000 E.lb10_0 E.lb22_0 lk_spyref3_Parts_b bs_spyref3_Parts base_i mkeys_map sortedC_i lk_spyref3_Parts_33 lk_spyref3_Parts_22 in_spyref3_Parts_22 lk_spyref3_Parts_24 in_spyref3_Parts_24 s_spyref3_half_run loopN loops Try.f10 Try.f22 Try.f24
def Q0_p_spyref3_Parts_l0 (a4 : Int) (u : Unit) (z : Out) : Prop := ∃ env st, z = some (.exit 0, env, st) ∧ env = sp 36 0 [(7, .d (.int .i64 4)), (8, .nils 37)]
abbrev Q_p_spyref3_Parts_l0 (a4 : Int) (o : Unit) (z : Out) : Prop := Q0_p_spyref3_Parts_l0 a4 o z
theorem l_p_spyref3_Parts_l0 (L : Nat) (hL : L ≤ 4611686018427387904) (a4 : Int) : ∀ (tl n : Nat) (s3 : Int) (env : List V) (st : Store) (o : Unit), tl < n → Cnt a4 s3 tl → mask (maskOf en10.ms 0) env = sp 36 0 [(6, .nilm), (7, .d (.int .i64 4)), (8, .nils 37), (19, .d (.sl 3 (([] : List Int).map (D.int .i64)))), (20, .d (.int .i64 a4)), (21, .d (.int .i64 s3))] → p_spyref3_Parts_l0 L  tl s3  = some o →
    Q_p_spyref3_Parts_l0 a4 o (iter (evC Try.prog (G_spyref3_Parts L) (evFB Try.prog (G_spyref3_Parts L) T_spyref3_Parts L base 1) L en10.ms 0 0 lb10_0) (maskOf en10.ms 0) n env st) := by
  intro tl
  induction tl with
  | zero =>
    intro n s3  env st o hn hR he  h
    obtain ⟨n, rfl⟩ : ∃ m, n = m + 1 := ⟨n - 1, by omega⟩
    have g0 := cnt_nil hR
    rw [iter, he]
    clear he
    generalize hK : iter _ _ n = K
    rw [p_spyref3_Parts_l0] at h
    revert h
    rintro ⟨⟩
    simp only [go_sem, *]
    refine (⟨_, _, rfl, ?_⟩ : Q0_p_spyref3_Parts_l0 _ _ _)
    all_goals simp only [go_sem, *]
  | succ tl ih =>
    intro n s3  env st o hn hR he  h
    obtain ⟨n, rfl⟩ : ∃ m, n = m + 1 := ⟨n - 1, by omega⟩
    replace ih : Hold _ := ih
    replace hR := cnt_s hR
    obtain ⟨g0, g1, g3, hR⟩ := hR
    rw [iter, he]
    clear he
    generalize hK : iter _ _ n = K
    rw [p_spyref3_Parts_l0] at h
    revert h
    refine idx_i fun x6 c1 c2 c3 => ?_
    intro h; cases h
def Q0_p_spyref3_Parts_l2 (a1 : Int) (a19 : Int) (u : List (Int × Int)) (z : Out) : Prop := ∃ env st, z = some (.exit 0, env, st) ∧ env = sp 50 0 [(7, .mp (15, 20) (st (15, 20)).ver)] ∧ Bk (st (15, 20)) 1000056 (mapV (D.int .i64) u)
abbrev Q_p_spyref3_Parts_l2 (a1 : Int) (a19 : Int) (o : List (Int × Int)) (z : Out) : Prop := Q0_p_spyref3_Parts_l2 a1 a19 o z
theorem l_p_spyref3_Parts_l2 (L : Nat) (hL : L ≤ 4611686018427387904) (a1 : Int) (a19 : Int) : ∀ (n : Nat) (s23 : Int) (s24 : List (Int × Int)) (env : List V) (st : Store) (o : List (Int × Int)), mask (maskOf en22.ms 0) env = sp 50 0 [(1, .d (.int .i64 a1)), (6, .d (.int .i64 a19)), (7, .mp (15, 20) (st (15, 20)).ver), (8, .d (.int .i64 s23))] → Bk (st (15, 20)) 1000056 (mapV (D.int .i64) s24) → p_spyref3_Parts_l2 L a1 a19 n s23 s24 = some o →
    Q_p_spyref3_Parts_l2 a1 a19 o (iter (evC Try.prog (G_spyref3_Parts L) (evFB Try.prog (G_spyref3_Parts L) T_spyref3_Parts L base 0) L en22.ms 15 0 lb22_0) (maskOf en22.ms 0) n env st) := by
  intro n
  induction n with
  | zero => intro s23 s24 env st o he hb0 h; cases h
  | succ n ih =>
    intro s23 s24 env st o he hb0 h
    replace ih : Hold _ := ih
    obtain ⟨be0, bv0, bl0⟩ := hb0
    rw [iter, he]
    clear he
    generalize hK : iter _ _ n = K
    rw [p_spyref3_Parts_l2] at h
    revert h
    refine ite_i (fun c1 => ?_) (fun c1 => ?_)
    · refine mc_i (fun m26 c2 => ?_) (fun c2 => ?_)
      · refine rq_i fun c3 => ?_
        intro h
        simp only [go_sem, *]
        subst hK
        refine ih  (i64.wrap (s23 + 1)) (mapP s24 (shrI .i64 (i64.wrap (a19 + s23)) 4) (i64.wrap (m26 + (i64.wrap ((i64.wrap ((i64.wrap ((i64.wrap (16 * a1)) - (maxI s23 (i64.wrap (0 - s23))))) * 16)).tdiv (i64.wrap (a1 * a1))))))) _ _ _ ?_ ?_ h
        all_goals simp only [go_sem, *]
      · refine rq_i fun c4 => ?_
        intro h
        simp only [go_sem, *]
        subst hK
        refine ih  (i64.wrap (s23 + 1)) (mapP s24 (shrI .i64 (i64.wrap (a19 + s23)) 4) (i64.wrap (0 + (i64.wrap ((i64.wrap ((i64.wrap ((i64.wrap (16 * a1)) - (maxI s23 (i64.wrap (0 - s23))))) * 16)).tdiv (i64.wrap (a1 * a1))))))) _ _ _ ?_ ?_ h
        all_goals simp only [go_sem, *]
    · rintro ⟨⟩
      simp only [go_sem, *]
      refine (⟨_, _, rfl, ?_, ?_⟩ : Q0_p_spyref3_Parts_l2 _ _ _ _)
      all_goals simp only [go_sem, *]
def Q0_p_spyref3_Parts_l3 (a30 : List Int) (o27 : List (Int × Int)) (u : List (Int × Int × Unit)) (z : Out) : Prop := ∃ env st, z = some (.exit 0, env, st) ∧ env = sp 36 0 [(7, .d (.int .i64 0)), (8, gl 37 (0, 32) (st (0, 32)).ver (rowV k37.e u))] ∧ GlB (st (0, 32)) 37 (rowV k37.e u)
abbrev Q_p_spyref3_Parts_l3 (a30 : List Int) (o27 : List (Int × Int)) (o : List (Int × Int × Unit)) (z : Out) : Prop := Q0_p_spyref3_Parts_l3 a30 o27 o z
theorem l_p_spyref3_Parts_l3 (L : Nat) (hL : L ≤ 4611686018427387904) (a30 : List Int) (o27 : List (Int × Int)) : ∀ (tl : List Int) (n : Nat) (s31 : Int) (s33 : List (Int × Int × Unit)) (env : List V) (st : Store) (o : List (Int × Int × Unit)), tl.length < n → Rng a30 s31 tl → mask (maskOf en10.ms 0) env = sp 36 0 [(6, .mp (15, 20) (st (15, 20)).ver), (7, .d (.int .i64 0)), (8, gl 37 (0, 32) (st (0, 32)).ver (rowV k37.e s33)), (19, .d (.sl 3 (a30.map (D.int .i64)))), (20, .d (.int .i64 (a30.length : Int))), (21, .d (.int .i64 s31))] → GlB (st (0, 32)) 37 (rowV k37.e s33) → Bk (st (15, 20)) 1000056 (mapV (D.int .i64) o27) → p_spyref3_Parts_l3 L o27 tl s33 = some o →
    Q_p_spyref3_Parts_l3 a30 o27 o (iter (evC Try.prog (G_spyref3_Parts L) (evFB Try.prog (G_spyref3_Parts L) T_spyref3_Parts L base 1) L en10.ms 0 0 lb10_0) (maskOf en10.ms 0) n env st) := by
  intro tl
  induction tl with
  | nil =>
    intro n s31 s33 env st o hn hR he hb0 hb1 h
    obtain ⟨n, rfl⟩ : ∃ m, n = m + 1 := ⟨n - 1, by omega⟩
    obtain ⟨be1, bv1, bl1⟩ := hb1
    have g0 := rng_nil hR
    rw [iter, he]
    clear he
    generalize hK : iter _ _ n = K
    rw [p_spyref3_Parts_l3] at h
    revert h
    rintro ⟨⟩
    simp only [go_sem, *]
    refine (⟨_, _, rfl, ?_, ?_⟩ : Q0_p_spyref3_Parts_l3 _ _ _ _)
    all_goals simp only [go_sem, *]
  | cons x29 tl ih =>
    intro n s31 s33 env st o hn hR he hb0 hb1 h
    obtain ⟨n, rfl⟩ : ∃ m, n = m + 1 := ⟨n - 1, by omega⟩
    obtain ⟨be1, bv1, bl1⟩ := hb1
    replace ih : Hold _ := ih
    replace hR := rng_s hR
    obtain ⟨g0, g1, g2, g3, hR⟩ := hR
    rw [iter, he]
    clear he
    generalize hK : iter _ _ n = K
    rw [p_spyref3_Parts_l3] at h
    revert h
    refine mc_i (fun m35 c1 => ?_) (fun c1 => ?_)
    · refine rq_i fun c2 => ?_
      refine rq_i fun c3 => ?_
      intro h
      simp only [go_sem, *]
      subst hK
      refine ih n (s31 + 1) (s33 ++ [(x29, m35, ())]) _ _ _ (by simp only [List.length_cons] at hn; omega) hR ?_ ?_ ?_ h
      all_goals simp only [go_sem, *]
    · refine rq_i fun c4 => ?_
      refine rq_i fun c5 => ?_
      intro h
      simp only [go_sem, *]
      subst hK
      refine ih n (s31 + 1) (s33 ++ [(x29, 0, ())]) _ _ _ (by simp only [List.length_cons] at hn; omega) hR ?_ ?_ ?_ h
      all_goals simp only [go_sem, *]
def Q0_p_spyref3_Parts_l4 (a41 : Int) (u : Unit) (z : Out) : Prop := ∃ env st, z = some (.exit 0, env, st) ∧ env = sp 36 0 [(7, .d (.int .i64 1)), (8, .nils 37)]
abbrev Q_p_spyref3_Parts_l4 (a41 : Int) (o : Unit) (z : Out) : Prop := Q0_p_spyref3_Parts_l4 a41 o z
theorem l_p_spyref3_Parts_l4 (L : Nat) (hL : L ≤ 4611686018427387904) (a41 : Int) : ∀ (tl n : Nat) (s40 : Int) (env : List V) (st : Store) (o : Unit), tl < n → Cnt a41 s40 tl → mask (maskOf en10.ms 0) env = sp 36 0 [(6, .nilm), (7, .d (.int .i64 1)), (8, .nils 37), (19, .d (.sl 3 (([] : List Int).map (D.int .i64)))), (20, .d (.int .i64 a41)), (21, .d (.int .i64 s40))] → p_spyref3_Parts_l4 L  tl s40  = some o →
    Q_p_spyref3_Parts_l4 a41 o (iter (evC Try.prog (G_spyref3_Parts L) (evFB Try.prog (G_spyref3_Parts L) T_spyref3_Parts L base 1) L en10.ms 0 0 lb10_0) (maskOf en10.ms 0) n env st) := by
  intro tl
  induction tl with
  | zero =>
    intro n s40  env st o hn hR he  h
    obtain ⟨n, rfl⟩ : ∃ m, n = m + 1 := ⟨n - 1, by omega⟩
    have g0 := cnt_nil hR
    rw [iter, he]
    clear he
    generalize hK : iter _ _ n = K
    rw [p_spyref3_Parts_l4] at h
    revert h
    rintro ⟨⟩
    simp only [go_sem, *]
    refine (⟨_, _, rfl, ?_⟩ : Q0_p_spyref3_Parts_l4 _ _ _)
    all_goals simp only [go_sem, *]
  | succ tl ih =>
    intro n s40  env st o hn hR he  h
    obtain ⟨n, rfl⟩ : ∃ m, n = m + 1 := ⟨n - 1, by omega⟩
    replace ih : Hold _ := ih
    replace hR := cnt_s hR
    obtain ⟨g0, g1, g3, hR⟩ := hR
    rw [iter, he]
    clear he
    generalize hK : iter _ _ n = K
    rw [p_spyref3_Parts_l4] at h
    revert h
    refine idx_i fun x43 c1 c2 c3 => ?_
    intro h; cases h
theorem e_spyref3_Parts (L : Nat) (hL : L ≤ 4611686018427387904) (a0 : Int) (a1 : Int) (res : (List (Int × Int × Unit)) × Int) (h : p_spyref3_Parts L a0 a1 = some res) : evTopB Try.prog (G_spyref3_Parts L) T_spyref3_Parts L base 2 10 [.int .i64 a0, .int .i64 a1] = some [.sl 37 (res.1.map k37.e), .int .i64 res.2] := by
  revert h
  unfold p_spyref3_Parts evTopB
  simp only [List.map]
  rw [evFB_s (fn := Try.f10) (msk := en10.ms) (hT := by rfl) (hb := by rfl)]
  refine ite_i (fun c1 => ?_) (fun c1 => ?_)
  · refine rq_i fun c2 => ?_
    refine rq_i fun c3 => ?_
    refine bnd_i fun o7 ho4 => ?_
    intro h
    simp only [go_sem, *]
    generalize hz6 : iter _ _ _ _ _ = z5
    have hq7 : Q_p_spyref3_Parts_l0 (([] : List Int).length : Int) o7 z5 := by
      rw [← hz6]
      refine l_p_spyref3_Parts_l0 L hL (([] : List Int).length : Int) _ L 0  _ _ _ c2 (cnt_00 (by decide) c3) ?_ ho4
      all_goals simp only [go_sem, *]
    clear hz6 ho4
    obtain ⟨_, st8, rfl, rfl⟩ := hq7
    revert h
    rintro ⟨⟩
    simp only [go_sem, *]
  · refine ite_i (fun c8 => ?_) (fun c8 => ?_)
    · refine rq_i fun c9 => ?_
      refine rq_i fun c10 => ?_
      refine bnd_i fun o15 ho11 => ?_
      intro h
      simp only [go_sem, *]
      generalize hz13 : iter _ _ _ _ _ = z12
      have hq14 : Q_p_spyref3_Parts_l0 (([] : List Int).length : Int) o15 z12 := by
        rw [← hz13]
        refine l_p_spyref3_Parts_l0 L hL (([] : List Int).length : Int) _ L 0  _ _ _ c9 (cnt_00 (by decide) c10) ?_ ho11
        all_goals simp only [go_sem, *]
      clear hz13 ho11
      obtain ⟨_, st16, rfl, rfl⟩ := hq14
      revert h
      rintro ⟨⟩
      simp only [go_sem, *]
    · refine bnd_i fun r17 c15 => ?_
      refine cb_i (fun c16 => ?_) (fun c16 => ?_)
      · refine bnd_i fun o27 ho17 => ?_
        intro h
        simp only [go_sem, *]
        generalize hz19 : iter _ _ _ _ _ = z18
        have hq20 : Q_p_spyref3_Parts_l2 a1 (shrI .i64 a0 4) o27 z18 := by
          rw [← hz19]
          refine l_p_spyref3_Parts_l2 L hL a1 (shrI .i64 a0 4) L (i64.wrap (1 - (i64.wrap (16 * a1)))) ([] : List (Int × Int)) _ _ _  ?_ ?_ ho17
          all_goals simp only [go_sem, *]
        clear hz19 ho17
        obtain ⟨_, st28, rfl, rfl, ⟨k211, k212, k213⟩⟩ := hq20
        revert h
        refine rq_i fun c22 => ?_
        refine rq_i fun c23 => ?_
        refine rq_i fun c24 => ?_
        refine bnd_i fun o36 ho25 => ?_
        intro h
        simp only [go_sem, *]
        generalize hz27 : iter _ _ _ _ _ = z26
        have hq28 : Q_p_spyref3_Parts_l3 (isort (o27.map (·.1))) o27 o36 z26 := by
          rw [← hz27]
          refine l_p_spyref3_Parts_l3 L hL (isort (o27.map (·.1))) o27 (isort (o27.map (·.1))) L 0 ([]) _ _ _ c24 (rng_0 c24 hL) ?_ ?_ ?_ ho25
          all_goals simp only [go_sem, *]
        clear hz27 ho25
        obtain ⟨_, st37, rfl, rfl, k29⟩ := hq28
        revert h
        rintro ⟨⟩
        simp only [go_sem, *]
      · refine rq_i fun c30 => ?_
        refine rq_i fun c31 => ?_
        refine bnd_i fun o44 ho32 => ?_
        intro h
        simp only [go_sem, *]
        generalize hz34 : iter _ _ _ _ _ = z33
        have hq35 : Q_p_spyref3_Parts_l4 (([] : List Int).length : Int) o44 z33 := by
          rw [← hz34]
          refine l_p_spyref3_Parts_l4 L hL (([] : List Int).length : Int) _ L 0  _ _ _ c30 (cnt_00 (by decide) c31) ?_ ho32
          all_goals simp only [go_sem, *]
        clear hz34 ho32
        obtain ⟨_, st45, rfl, rfl⟩ := hq35
        revert h
        rintro ⟨⟩
        simp only [go_sem, *]
noncomputable def s_spyref3_Parts (L : Nat) : Ev.Spec := specP (cCons (cI .i64) (cCons (cI .i64) cNil)) (fun x => p_spyref3_Parts L x.1 x.2.1) (fun r => [.sl 37 (r.1.map k37.e), .int .i64 r.2])
theorem s_spyref3_Parts_run (L : Nat) (a0 : Int) (a1 : Int) : (s_spyref3_Parts L).run [.int .i64 a0, .int .i64 a1] = (p_spyref3_Parts L a0 a1).map fun r => [.sl 37 (r.1.map k37.e), .int .i64 r.2] := specP_run (cCons (cI .i64) (cCons (cI .i64) cNil)) (fun x => p_spyref3_Parts L x.1 x.2.1) (fun r => [.sl 37 (r.1.map k37.e), .int .i64 r.2]) (a0, a1, ())
theorem ok_spyref3_Parts (L : Nat) (hL : L ≤ 4611686018427387904) : SpecOk Try.prog 10 (s_spyref3_Parts L) := specP_okB mixed (Go_spyref3_Parts L hL) (To_spyref3_Parts L) base_ok fun x r h => ⟨L, 2, e_spyref3_Parts L hL x.1 x.2.1 r h⟩
end Go.Proofs.Ytnopgienncmcmaa.P
end
section
set_option linter.unusedVariables false
set_option linter.unusedSimpArgs false
set_option maxRecDepth 100000
namespace Go.Proofs.Ytnopgienncmcmaa.P
open Go.Ev Go.IntKind Go.Proofs.Ytnopgienncmcmaa Go.Proofs.Ytnopgienncmcmaa.Ty Go.Proofs.Ytnopgienncmcmaa.E
def p_spylaw3_OpticsAxes (L : Nat) (a0 : Int) (a1 : Int) : Option Bool := bnd (p_optics_Axis L a0 a1) fun r1 => bnd (p_spyref3_Parts L a0 a1) fun r2 => cb (decide (a1 = 1)) (bnd (p_spylaw3_lenses L) fun r3 => cb r3 (cb (decide (r1.2 = r2.2)) (bnd (p_slices_Equal_Part L r1.1 r2.1) fun r4 => cb r4 (bnd (p_optics_Reach L a1) fun r5 => some (decide (r5 = a1))) (some false)) (some false)) (some false)) (cb (decide (a1 = 2)) (bnd (p_spylaw3_lenses L) fun r6 => cb r6 (cb (decide (r1.2 = r2.2)) (bnd (p_slices_Equal_Part L r1.1 r2.1) fun r7 => cb r7 (bnd (p_optics_Reach L a1) fun r8 => some (decide (r8 = a1))) (some false)) (some false)) (some false)) (cb (decide (a1 = 4)) (bnd (p_spylaw3_lenses L) fun r9 => cb r9 (cb (decide (r1.2 = r2.2)) (bnd (p_slices_Equal_Part L r1.1 r2.1) fun r10 => cb r10 (bnd (p_optics_Reach L a1) fun r11 => some (decide (r11 = a1))) (some false)) (some false)) (some false)) (bnd (p_spylaw3_lenses L) fun r12 => cb r12 (cb (decide (r1.2 = r2.2)) (bnd (p_slices_Equal_Part L r1.1 r2.1) fun r13 => cb r13 (bnd (p_optics_Reach L a1) fun r14 => some (decide (r14 = 0))) (some false)) (some false)) (some false))))
attribute [local go_sem] Ev.putR_s Ev.putR_0 Ev.thenO_s Ev.thenO_0 Ev.seqR_n Ev.seqR_e Ev.seqR_r Ev.seqR_0 Ev.blkR_e Ev.blkR_n Ev.blkR_r Ev.blkR_0 Ev.normR_s Ev.normR_0 Ev.outR_r Ev.outR_n Ev.outR_0 Ev.retS_s Ev.retS_0 Ev.pureO_s Ev.pureO_0 Ev.topR_0 Ev.topR_t Ev.topR_t0 Ev.oneL_0 Ev.oneL_s Ev.topR_d Ev.topR_nils Ev.topR_agg Ev.topR_rs Ev.evOp_move Ev.evOp_assign Ev.evOp_pick Ev.evOp_alloc Ev.evOp_box Ev.evOp_build Ev.evOp_buildSlice Ev.evOp_load Ev.evOp_store Ev.evOp_makeMap Ev.evOp_lookup Ev.evOp_mapUpdate Ev.evOp_insert Ev.evOp_nilCheck Ev.evOp_binOp Ev.evOp_unOp Ev.evOp_convert Ev.evOp_makeFunc Ev.evOp_makeSlice Ev.evOp_slice Ev.evOp_fieldAddr Ev.evOp_field Ev.evOp_indexAddr Ev.evOp_index Ev.evOp_extract Ev.evOp_call Ev.evOp_append Ev.evOp_clear Ev.evOp_len Ev.evLen_d Ev.evLen_rs Ev.evLen_nils Ev.evLen_nila Ev.evLen_mp Ev.evOp_min Ev.evOp_max Ev.condR_b Ev.condR_t Ev.evOps_nil Ev.evOps_plain Ev.evOps_guard Ev.runG_eq Ev.skipG_eq Ev.condL_tt Ev.condL_ff Ev.condL_tf Ev.condL_ft Ev.condL_u Ev.condC_t Ev.condC_f Ev.evC_skip Ev.evC_ret Ev.evC_exit Ev.evC_label Ev.evC_region Ev.evC_draw Ev.evC_seq Ev.evC_cond Ev.evC_block Ev.evC_loop Ev.fin_d Ev.fin_nila Ev.fin_nils Ev.fin_agg_ Ev.fin_rs Ev.finS_s Ev.mapO_fin Ev.upd_upd Ev.argv_d Ev.argv_nila Ev.argv_nils Ev.argv_agg Ev.argv_rs Ev.argv_p Ev.fk_low Ev.appendTo_nils Ev.appendTo_nila Ev.appendTo_rs Ev.consV_d Ev.consV_agg Ev.consV_p Ev.consV_rs Ev.consV_nila Ev.consV_nils Ev.consV_fn Ev.consV_und Ev.consV_jk Ev.consV_grown Ev.topR_grown Ev.len_grown Ev.consV_nilm Ev.consV_mp Ev.sameK_i Ev.sameK_s Ev.mget_0 Ev.mget_hit Ev.mget_miss Ev.mput_0 Ev.mput_hit Ev.mput_miss Ev.apartAll Ev.apartL Ev.apartV Ev.freeAll Ev.sel Ev.keyOfV Ev.evLookup Ev.evPut Ev.hintOk Ev.keyOk Ev.consP Ev.lookV Ev.guardV Ev.dstAt Ev.evPure Ev.evStore Ev.evBin Ev.evBinO Ev.evNil Ev.isNilC Ev.evUn Ev.evConv Ev.evSlice Ev.optI Ev.foldI Ev.capsOk Ev.noTup Ev.nth Ev.setN Ev.killAt Ev.pad Ev.V.get Ev.V.put Ev.putD Ev.newBlk Ev.upd Ev.keq Ev.empty Ev.evCall Ev.V.args Ev.argP Ev.callOf Ev.evNilP Ev.isNilP Ev.look Ev.V.view.views Ev.V.view Ev.V.toD Ev.V.toD.V.toDs Ev.V.pure.pures Ev.V.pure Ev.D.flat.flats Ev.D.flat Ev.mkAgg Ev.allD Ev.aggParts Ev.setParts Ev.setElems Ev.getPath Ev.setPath Ev.subL Ev.eqD Ev.eqD.eqDs Ev.and2 Ev.strCut Ev.evalT Ev.constT Ev.evArgs Ev.mask Ev.maskOf Ev.tableOf Ev.compT Ev.resV Ev.retV Ev.mapO Ev.mx_u64 Ev.mx_u32 Ev.mx_u16 Ev.mx_u8 Ev.sg_i64 Ev.sg_i32 Ev.sg_i16 Ev.sg_i8 Ev.sg_u64 Ev.sg_u32 Ev.sg_u16 Ev.sg_u8 Ev.mapE_i Ev.mapV_nil Ev.hT_nilm Ev.mget_map Ev.mput_map Ev.mapV_put Ev.mapV_half Ev.hT_nila Ev.eO_nila Ev.pL_nila Ev.evLen_gl Ev.r_nila Ev.frzO_n Ev.frzO_e Ev.frzO_r Ev.frzO_0 Ev.mb_z Ev.mb_0 Ev.mb_s Ev.frzL_t Ev.frzL_f Ev.frzL_0 Ev.frzT_nils Ev.frzT_rs Ev.frzT_p Ev.frzK_i Ev.keyIn_i Ev.rI_nil Ev.rI_cons Ev.rI_row Ev.rI_app Ev.r_d Ev.r_nils Ev.r_agg Ev.r_rs Ev.r_gl Ev.vw_row Ev.vw_app Ev.appO_s Ev.frzT_gl Ev.allD_gl Ev.killAt_i Ev.tkOne_i Ev.hT_agg Ev.hT_vagg Ev.hT_int Ev.hT_bool Ev.hT_str Ev.hT_sl Ev.hT_ptr Ev.hT_np Ev.hT_p Ev.hT_rs Ev.hT_mp Ev.hT_nils Ev.hT_fn Ev.hT_jk Ev.hT_gl Ev.eO_sl Ev.eO_nils Ev.eO_rs Ev.eT_sl Ev.eT_rs Ev.pL_str Ev.pL_sl Ev.pL_rs Ev.pL_nils Ev.pL_min Ev.pL_max Ev.len_glB Ev.noTup_gl Ev.rowV_len Ev.rowV_nil Ev.rowV_cons Ev.rowV_append Ev.rowV_set Ev.rowV_replicate Ev.nth_row Ev.row_take Ev.row_drop Ev.toDs_row Ev.fin_row Ev.map_row Ev.map_take_ Ev.map_drop_ Ev.Bk_i Ev.GlB_0 Ev.GlB_mk Ev.gl_nil Ev.gl_cons Ev.gl_snoc Ev.gl_setN Ev.appendTo_gl Ev.consV_gl Ev.elems_gl Ev.fin_gl Ev.view_gl Ev.argv_gl Ev.topR_gl Ev.sp_z Ev.sp_0 Ev.sp_s Ev.km_z Ev.km_0 Ev.km_s Ev.beq_toList Ev.nc0 Ev.bq_t Ev.bq_f Ev.bodyN Ev.le_maxRow Int.cast_ofNat_Int IntWalk.i64_in IntWalk.u64_in IntWalk.u8_in beq_self_eq_true Bool.true_beq Bool.false_beq Bool.and_true Bool.true_and Bool.false_and Bool.and_false Bool.and_self Bool.not_true Bool.not_false Bool.not_eq_true cond_true cond_false if_true if_false and_true true_and and_self decide_true decide_false Bool.or_true Bool.true_or Bool.or_false Bool.false_or List.isEmpty List.isEmpty_nil List.size_toArray List.map List.length_map List.length_cons List.length_nil Option.map Option.bind Option.getD Option.isSome List.replicate Bool.false_eq_true implies_true false_implies forall_const Array.toList Array.isEmpty List.append List.nil_append List.cons_append List.drop_zero List.take_length List.take_succ_cons List.take_zero List.take_nil List.getElem?_map List.getElem?_cons_zero List.getElem?_cons_succ List.getElem?_nil List.append_nil eq_self Int.toNat_natCast List.length_append Nat.zero_add Nat.add_zero List.length_replicate Nat.sub_zero Option.map_some Option.map_none Int.le_refl Nat.le_refl Int.natCast_nonneg List.map_append
attribute [local go_sem_proc] Nat.reduceAdd Nat.reduceSub Nat.reduceMul Nat.reduceEqDiff Nat.reduceBEq Nat.reduceLT Nat.reduceLeDiff Nat.reducePow Int.reduceToNat Int.reduceLT Int.reduceLE Int.reduceGT Int.reduceGE Int.reduceEq Int.reduceNeg Int.reduceAdd Int.reduceSub Int.reduceMul reduceCtorEq
attribute [local go_sem_proc ↓] reduceIte
noncomputable def G_spylaw3_OpticsAxes (L : Nat) : Specs := [(9, s_optics_Axis L), (10, s_spyref3_Parts L), (11, s_spylaw3_lenses L), (12, s_slices_Equal_Part L), (13, s_optics_Reach L)]
noncomputable def T_spylaw3_OpticsAxes : Table := tableOf [(4, en4)]
theorem Go_spylaw3_OpticsAxes (L : Nat) (hL : L ≤ 4611686018427387904) : ∀ g s, Ev.look (G_spylaw3_OpticsAxes L) g = some s → SpecOk Try.prog g s := (specs_cons (ok_optics_Axis L hL) (specs_cons (ok_spyref3_Parts L hL) (specs_cons (ok_spylaw3_lenses L hL) (specs_cons (ok_slices_Equal_Part L hL) (specs_cons (ok_optics_Reach L hL) specs_nil)))))
theorem To_spylaw3_OpticsAxes (L : Nat) : TableOk Try.prog ((G_spylaw3_OpticsAxes L).map (·.1)) T_spylaw3_OpticsAxes := (table_cons Try.func4 (by kernel_rfl) (by kernel_rfl) table_nil)
theorem lk_spylaw3_OpticsAxes_9 (L : Nat) : Ev.look (G_spylaw3_OpticsAxes L) 9 = some (s_optics_Axis L) := nr rfl
theorem lk_spylaw3_OpticsAxes_10 (L : Nat) : Ev.look (G_spylaw3_OpticsAxes L) 10 = some (s_spyref3_Parts L) := nr rfl
theorem lk_spylaw3_OpticsAxes_11 (L : Nat) : Ev.look (G_spylaw3_OpticsAxes L) 11 = some (s_spylaw3_lenses L) := nr rfl
theorem lk_spylaw3_OpticsAxes_12 (L : Nat) : Ev.look (G_spylaw3_OpticsAxes L) 12 = some (s_slices_Equal_Part L) := nr rfl
theorem lk_spylaw3_OpticsAxes_13 (L : Nat) : Ev.look (G_spylaw3_OpticsAxes L) 13 = some (s_optics_Reach L) := nr rfl
attribute [local go_sem] Ty.tk3 Ty.ik3 Ty.ek3 Ty.zv3 Ty.by3 Ty.so3 Ty.tk4 Ty.ub4 Ty.ek4 Ty.zv4 Ty.by4 Ty.so4 Ty.tk24 Ty.ik24 Ty.ek24 Ty.zv24 Ty.by24 Ty.so24 Ty.tk30 Ty.ik30 Ty.ek30 Ty.zv30 Ty.by30 Ty.so30 Ty.tk31 Ty.zv31 Ty.by31 Ty.so31 Ty.tk35 Ty.ik35 Ty.ek35 Ty.zv35 Ty.by35 Ty.so35 Ty.tk37 Ty.ct37 Ty.ek37 Ty.zv37 Ty.by37 Ty.so37 Ty.k31_e Ty.k37_e E.mk4_1000000 lk_spylaw3_OpticsAxes_9 lk_spylaw3_OpticsAxes_10 lk_spylaw3_OpticsAxes_11 lk_spylaw3_OpticsAxes_12 lk_spylaw3_OpticsAxes_13 s_optics_Axis_run s_spyref3_Parts_run s_spylaw3_lenses_run s_slices_Equal_Part_run s_optics_Reach_run loopN loops Try.f4
theorem e_spylaw3_OpticsAxes (L : Nat) (hL : L ≤ 4611686018427387904) (a0 : Int) (a1 : Int) (res : Bool) (h : p_spylaw3_OpticsAxes L a0 a1 = some res) : evTop Try.prog (G_spylaw3_OpticsAxes L) T_spylaw3_OpticsAxes L 1 4 [.int .i64 a0, .int .i64 a1] = some [.bool res] := by
  revert h
  unfold p_spylaw3_OpticsAxes evTop
  simp only [List.map]
  rw [evF_s (fn := Try.f4) (msk := en4.ms) (hT := by rfl) (hb := by rfl)]
  refine bnd_i fun r1 c1 => ?_
  refine bnd_i fun r2 c2 => ?_
  refine cb_i (fun c3 => ?_) (fun c3 => ?_)
  · refine bnd_i fun r3 c4 => ?_
    refine cb_i (fun c5 => ?_) (fun c5 => ?_)
    · refine cb_i (fun c6 => ?_) (fun c6 => ?_)
      · refine bnd_i fun r4 c7 => ?_
        refine cb_i (fun c8 => ?_) (fun c8 => ?_)
        · refine bnd_i fun r5 c9 => ?_
          rintro ⟨⟩
          simp only [go_sem, *]
        · rintro ⟨⟩
          simp only [go_sem, *]
      · rintro ⟨⟩
        simp only [go_sem, *]
    · rintro ⟨⟩
      simp only [go_sem, *]
  · refine cb_i (fun c10 => ?_) (fun c10 => ?_)
    · refine bnd_i fun r6 c11 => ?_
      refine cb_i (fun c12 => ?_) (fun c12 => ?_)
      · refine cb_i (fun c13 => ?_) (fun c13 => ?_)
        · refine bnd_i fun r7 c14 => ?_
          refine cb_i (fun c15 => ?_) (fun c15 => ?_)
          · refine bnd_i fun r8 c16 => ?_
            rintro ⟨⟩
            simp only [go_sem, *]
          · rintro ⟨⟩
            simp only [go_sem, *]
        · rintro ⟨⟩
          simp only [go_sem, *]
      · rintro ⟨⟩
        simp only [go_sem, *]
    · refine cb_i (fun c17 => ?_) (fun c17 => ?_)
      · refine bnd_i fun r9 c18 => ?_
        refine cb_i (fun c19 => ?_) (fun c19 => ?_)
        · refine cb_i (fun c20 => ?_) (fun c20 => ?_)
          · refine bnd_i fun r10 c21 => ?_
            refine cb_i (fun c22 => ?_) (fun c22 => ?_)
            · refine bnd_i fun r11 c23 => ?_
              rintro ⟨⟩
              simp only [go_sem, *]
            · rintro ⟨⟩
              simp only [go_sem, *]
          · rintro ⟨⟩
            simp only [go_sem, *]
        · rintro ⟨⟩
          simp only [go_sem, *]
      · refine bnd_i fun r12 c24 => ?_
        refine cb_i (fun c25 => ?_) (fun c25 => ?_)
        · refine cb_i (fun c26 => ?_) (fun c26 => ?_)
          · refine bnd_i fun r13 c27 => ?_
            refine cb_i (fun c28 => ?_) (fun c28 => ?_)
            · refine bnd_i fun r14 c29 => ?_
              rintro ⟨⟩
              simp only [go_sem, *]
            · rintro ⟨⟩
              simp only [go_sem, *]
          · rintro ⟨⟩
            simp only [go_sem, *]
        · rintro ⟨⟩
          simp only [go_sem, *]
noncomputable def s_spylaw3_OpticsAxes (L : Nat) : Ev.Spec := specP (cCons (cI .i64) (cCons (cI .i64) cNil)) (fun x => p_spylaw3_OpticsAxes L x.1 x.2.1) (fun r => [.bool r])
theorem s_spylaw3_OpticsAxes_run (L : Nat) (a0 : Int) (a1 : Int) : (s_spylaw3_OpticsAxes L).run [.int .i64 a0, .int .i64 a1] = (p_spylaw3_OpticsAxes L a0 a1).map fun r => [.bool r] := specP_run (cCons (cI .i64) (cCons (cI .i64) cNil)) (fun x => p_spylaw3_OpticsAxes L x.1 x.2.1) (fun r => [.bool r]) (a0, a1, ())
theorem ok_spylaw3_OpticsAxes (L : Nat) (hL : L ≤ 4611686018427387904) : SpecOk Try.prog 4 (s_spylaw3_OpticsAxes L) := specP_ok mixed (Go_spylaw3_OpticsAxes L hL) (To_spylaw3_OpticsAxes L) fun x r h => ⟨L, 1, e_spylaw3_OpticsAxes L hL x.1 x.2.1 r h⟩
end Go.Proofs.Ytnopgienncmcmaa.P
end
section
set_option linter.unusedVariables false
set_option linter.unusedSimpArgs false
set_option maxRecDepth 100000
namespace Go.Proofs.Ytnopgienncmcmaa.PlOpticsAxes
open Go Go.Ev Go.IntKind Go.Pl Go.Proofs.Ytnopgienncmcmaa.P
/-! ### the numbers that do not depend on the place -/
theorem shr4 (x : Int) : shrI .i64 x 4 = x / 16 := by
  unfold shrI
  rw [Int.fdiv_eq_ediv_of_nonneg _ (by decide)]
  rfl
theorem before_some (L : Nat) (x n : Int) : p_optics_before L x n = some ((p_optics_before 0 x n).getD 0) := by
  unfold p_optics_before
  repeat' split
  all_goals rfl
def bef (x n : Int) : Int := (p_optics_before 0 x n).getD 0
def n_ (h : Int) : Int := i64.wrap (16 * h)
def u_ (h : Int) : Int := i64.wrap ((16 : Int).tdiv (i64.wrap (h * h)))
/-- The weights of the cells, the place at its own cell. -/
def axl (h r : Int) : Int → Nat → List (Int × Int)
  | _, 0 => []
  | c, k + 1 => if i64.wrap (bef (16 * c - r + 16) (n_ h) - bef (16 * c - r) (n_ h)) > 0 then (c, i64.wrap (u_ h * i64.wrap (bef (16 * c - r + 16) (n_ h) - bef (16 * c - r) (n_ h)))) :: axl h r (c + 1) k else axl h r (c + 1) k
def wg (h d : Int) : Int := (i64.wrap ((i64.wrap ((i64.wrap ((i64.wrap (16 * h)) - (maxI d (i64.wrap (0 - d))))) * 16)).tdiv (i64.wrap (h * h))))
def pl (h r : Int) : Int → Nat → List (Int × Int) → List (Int × Int)
  | _, 0, m => m
  | d, k + 1, m => pl h r (d + 1) k (mapP m ((r + d) / 16) (i64.wrap ((mapG m ((r + d) / 16)).getD 0 + wg h d)))
def pm (h r : Int) : List (Int × Int) := pl h r (1 - 16 * h) (32 * h - 1).toNat []
def keysOf (m : List (Int × Int)) : List Int := isort (m.map (·.1))
def ok1 (h r : Int) : Bool := decide ((keysOf (pm h r)).map (fun k => (k, (mapG (pm h r) k).getD 0)) = axl h r (-h - 1) (2 * h + 3).toNat) && ((pm h r).all fun p => decide (-100 ≤ p.1) && decide (p.1 ≤ 100)) && decide ((pm h r).length ≤ 100)
theorem ok_all : ([1, 2, 4].all fun h => (List.range 16).all fun (r : Nat) => ok1 h r) = true := by decide +kernel
theorem ok_at {h r : Int} (hh : h = 1 ∨ h = 2 ∨ h = 4) (h0 : 0 ≤ r) (h1 : r < 16) : ok1 h r = true := by
  have := ok_all
  rw [List.all_eq_true] at this
  have h2 := this h (by rcases hh with rfl | rfl | rfl <;> simp)
  rw [List.all_eq_true] at h2
  have h3 := h2 r.toNat (by rw [List.mem_range]; omega)
  rwa [Int.toNat_of_nonneg h0] at h3
/-! ### moved by a place -/
def sh (o : Int) (m : List (Int × Int)) : List (Int × Int) := m.map fun p => (o + p.1, p.2)
theorem mapG_sh (o k : Int) : ∀ m : List (Int × Int), mapG (sh o m) (o + k) = mapG m k
  | [] => rfl
  | p :: r => by
    have ih := mapG_sh o k r
    show (if o + k = o + p.1 then some p.2 else mapG (sh o r) (o + k)) = if k = p.1 then some p.2 else mapG r k
    rw [ih]
    by_cases h : k = p.1
    · rw [if_pos h, if_pos (by omega)]
    · rw [if_neg h, if_neg (by omega)]
theorem mapP_sh (o k v : Int) : ∀ m : List (Int × Int), mapP (sh o m) (o + k) v = sh o (mapP m k v)
  | [] => rfl
  | p :: r => by
    have ih := mapP_sh o k v r
    show (if o + k = o + p.1 then (o + p.1, v) :: sh o r else (o + p.1, p.2) :: mapP (sh o r) (o + k) v) = sh o (if k = p.1 then (p.1, v) :: r else p :: mapP r k v)
    rw [ih]
    by_cases h : k = p.1
    · rw [if_pos h, if_pos (by omega)]; rfl
    · rw [if_neg h, if_neg (by omega)]; rfl
theorem insI_sh (o x : Int) : ∀ l : List Int, insI (o + x) (l.map (o + ·)) = (insI x l).map (o + ·)
  | [] => rfl
  | y :: r => by
    have ih := insI_sh o x r
    rw [List.map_cons, insI, insI]
    by_cases h : x ≤ y
    · rw [if_pos h, if_pos (by omega)]; rfl
    · rw [if_neg h, if_neg (by omega), ih]; rfl
theorem isort_sh (o : Int) : ∀ l : List Int, isort (l.map (o + ·)) = (isort l).map (o + ·)
  | [] => rfl
  | x :: r => by rw [List.map_cons, isort, isort_sh o r, insI_sh]; rfl
theorem keys_sh (o : Int) (m : List (Int × Int)) : isort ((sh o m).map (·.1)) = (keysOf m).map (o + ·) := by
  unfold keysOf sh
  rw [← isort_sh, List.map_map, List.map_map]
  rfl
/-! ### the loops -/
theorem hb {h : Int} (hh : h = 1 ∨ h = 2 ∨ h = 4) : 1 ≤ h ∧ h ≤ 4 := by omega
theorem hsq {h : Int} (hh : h = 1 ∨ h = 2 ∨ h = 4) : ¬ i64.wrap (h * h) = 0 := by rcases hh with rfl | rfl | rfl <;> decide
theorem parts_l (L : Nat) {h g o r : Int} (hh : h = 1 ∨ h = 2 ∨ h = 4) (hg : g = 16 * o + r) (hr0 : 0 ≤ r) (hr1 : r < 16) (ho : -10000 ≤ o ∧ o ≤ 10000) : ∀ (k n : Nat) (d : Int) (m : List (Int × Int)), k < n → d + k = 16 * h → -64 ≤ d → p_spyref3_Parts_l2 L h g n d (sh o m) = some (sh o (pl h r d k m))
  | 0, n + 1, d, m, _, hd, hd0 => by
    have := hb hh
    rw [p_spyref3_Parts_l2, w64 (x := 16 * h) (by omega), if_neg (by omega)]; rfl
  | k + 1, n + 1, d, m, hn, hd, hd0 => by
    have hb' := hb hh
    have e1 : shrI .i64 (i64.wrap (g + d)) 4 = o + (r + d) / 16 := by rw [shr4, w64 (by omega)]; omega
    have e2 : i64.wrap (d + 1) = d + 1 := w64 (by omega)
    have ih := fun m => parts_l L hh hg hr0 hr1 ho k n (d + 1) m (by omega) (by omega) (by omega)
    have hw : i64.wrap (16 * h) = 16 * h := w64 (by omega)
    rw [p_spyref3_Parts_l2, if_pos (by rw [hw]; omega), e1, e2, mapG_sh, pl]
    rw [show (i64.wrap ((i64.wrap ((i64.wrap ((i64.wrap (16 * h)) - (maxI d (i64.wrap (0 - d))))) * 16)).tdiv (i64.wrap (h * h)))) = wg h d from rfl]
    cases mapG m ((r + d) / 16) with
    | none => rw [mc_n, rq_t (hsq hh), mapP_sh, ih]; rfl
    | some v => rw [mc_s, rq_t (hsq hh), mapP_sh, ih]; rfl
theorem list_l (L : Nat) (m : List (Int × Int)) : ∀ (ks : List Int) (s : List (Int × Int × Unit)), (s.length + ks.length) * 16 ≤ 140737488355328 → p_spyref3_Parts_l3 L m ks s = some (s ++ ks.map fun k => (k, (mapG m k).getD 0, ()))
  | [], s, _ => by rw [p_spyref3_Parts_l3]; simp
  | k :: r, s, hs => by
    rw [List.length_cons] at hs
    have ih := fun (x : Int × Int × Unit) => list_l L m r (s ++ [x]) (by simp; omega)
    rw [p_spyref3_Parts_l3, List.map_cons]
    cases mapG m k with
    | none => rw [mc_n, rq_t (by rw [maxRow_v]; omega), rq_t (by rw [maxRow_v]; omega), ih]; simp
    | some v => rw [mc_s, rq_t (by rw [maxRow_v]; omega), rq_t (by rw [maxRow_v]; omega), ih]; simp
theorem axis_l (L : Nat) {h g o r : Int} (hh : h = 1 ∨ h = 2 ∨ h = 4) (hg : g = 16 * o + r) (hr0 : 0 ≤ r) (hr1 : r < 16) (ho : -10000 ≤ o ∧ o ≤ 10000) : ∀ (k n : Nat) (c : Int) (s : List (Int × Int × Unit)), k < n → c + k = h + 2 → -h - 1 ≤ c → (s.length + k) * 16 ≤ 140737488355328 → p_optics_Axis_l0 L h g o (i64.wrap (16 * h)) (i64.wrap ((16 : Int).tdiv (i64.wrap (h * h)))) n (o + c) s = some (s ++ (axl h r c k).map fun p => (o + p.1, p.2, ()))
  | 0, n + 1, c, s, _, hc, hc0, _ => by
    have := hb hh
    rw [p_optics_Axis_l0, w64 (x := o + h) (by omega), w64 (x := o + h + 1) (by omega), if_neg (by omega)]; simp [axl]
  | k + 1, n + 1, c, s, hn, hc, hc0, hs => by
    have hb' := hb hh
    have e2 : i64.wrap (o + c + 1) = o + (c + 1) := by rw [w64 (by omega)]; omega
    have ih := fun s => axis_l L hh hg hr0 hr1 ho k n (c + 1) s (by omega) (by omega) (by omega)
    have e3 : i64.wrap (i64.wrap (16 * (o + c)) - g) = 16 * c - r := by rw [w64 (x := 16 * (o + c)) (by omega), w64 (by omega)]; omega
    have e4 : i64.wrap (16 * c - r + 16) = 16 * c - r + 16 := w64 (by omega)
    rw [p_optics_Axis_l0, w64 (x := o + h) (by omega), w64 (x := o + h + 1) (by omega), if_pos (by omega), e3, e4, before_some L (16 * c - r + 16), bnd_s, before_some L (16 * c - r), bnd_s, e2, axl]
    rw [show (p_optics_before 0 (16 * c - r + 16) (i64.wrap (16 * h))).getD 0 = bef (16 * c - r + 16) (n_ h) from rfl, show (p_optics_before 0 (16 * c - r) (i64.wrap (16 * h))).getD 0 = bef (16 * c - r) (n_ h) from rfl]
    by_cases hw : i64.wrap (bef (16 * c - r + 16) (n_ h) - bef (16 * c - r) (n_ h)) > 0
    · rw [if_pos hw, if_pos hw, rq_t (by rw [maxRow_v]; omega), rq_t (by rw [maxRow_v]; omega), ih _ (by simp; omega)]
      simp [u_]
    · rw [if_neg hw, if_neg hw, ih _ (by omega)]
theorem floor_eq (L : Nat) (x : Int) (hx : -1000000 ≤ x ∧ x ≤ 1000000) : p_num_FloorDiv L x 16 = some (x / 16) := by
  unfold p_num_FloorDiv
  rw [if_neg (by decide), rq_t (by decide)]
  by_cases h : 0 ≤ x
  · rw [Int.tmod_eq_emod_of_nonneg h, Int.tdiv_eq_ediv_of_nonneg h, if_neg (by omega), w64 (by omega)]
  · obtain ⟨y, rfl⟩ : ∃ y, x = -y := ⟨-x, by omega⟩
    rw [Int.neg_tmod, Int.neg_tdiv, Int.tmod_eq_emod_of_nonneg (by omega), Int.tdiv_eq_ediv_of_nonneg (by omega)]
    by_cases h2 : -(y % 16) < 0
    · rw [if_pos h2, w64 (x := -(y / 16)) (by omega), w64 (by omega)]; congr 1; omega
    · rw [if_neg h2, w64 (by omega)]; congr 1; omega
/-! ### both answers -/
def ans (a h : Int) : List (Int × Int × Unit) × Int := if a < -65536 ∨ a > 65536 then ([], 4) else if h = 1 ∨ h = 2 ∨ h = 4 then ((axl h (a / 16 % 16) (-h - 1) (2 * h + 3).toNat).map fun p => (a / 16 / 16 + p.1, p.2, ()), 0) else ([], 1)
theorem reach_eq (L : Nat) (h : Int) : p_optics_Reach L h = some (if h = 1 ∨ h = 2 ∨ h = 4 then h else 0) := by
  unfold p_optics_Reach
  rw [cb_d, cb_d, cb_d]
  by_cases h1 : h = 1
  · simp [h1]
  · by_cases h2 : h = 2
    · simp [h2]
    · by_cases h4 : h = 4
      · simp [h4]
      · simp [h1, h2, h4]
theorem axis_eq (L : Nat) (hL : 100 < L) (a h : Int) : p_optics_Axis L a h = some (ans a h) := by
  unfold p_optics_Axis ans
  by_cases c1 : a < -65536
  · rw [if_pos c1, if_pos (.inl c1)]
  by_cases c2 : a > 65536
  · rw [if_neg c1, if_pos c2, if_pos (.inr c2)]
  rw [if_neg c1, if_neg c2, if_neg (by omega), reach_eq, bnd_s, cb_d]
  by_cases hh : h = 1 ∨ h = 2 ∨ h = 4
  · have hb' := hb hh
    rw [if_pos hh, if_pos hh, if_neg (by omega), floor_eq L a (by omega), bnd_s, floor_eq L (a / 16) (by omega), bnd_s, rq_t (hsq hh)]
    have := axis_l L hh (g := a / 16) (o := a / 16 / 16) (r := a / 16 % 16) (by omega) (by omega) (by omega) (by omega) (2 * h + 3).toNat L (-h - 1) [] (by omega) (by omega) (by omega) (by simp; omega)
    rw [w64 (x := a / 16 / 16 - h) (by omega), w64 (x := a / 16 / 16 - h - 1) (by omega), show a / 16 / 16 - h - 1 = a / 16 / 16 + (-h - 1) by omega, this, bnd_s]
    simp
  · rw [if_neg hh, if_neg hh, if_pos rfl]
theorem contains_eq (L : Nat) (hL : 100 < L) (h : Int) : p_spyref3_half L h = some (decide (h = 1 ∨ h = 2 ∨ h = 4)) := by
  unfold p_spyref3_half p_slices_Contains_int p_slices_Index_int
  rw [rq_t (by simp; omega), rq_t (by decide)]
  have el : ((([1, 2, 4] : List Int).length : Int)).toNat = 0 + 1 + 1 + 1 := rfl
  have e0 : idx [(1 : Int), 2, 4] 0 = some 1 := rfl
  have e1 : idx [(1 : Int), 2, 4] (0 + 1) = some 2 := rfl
  have e2 : idx [(1 : Int), 2, 4] (0 + 1 + 1) = some 4 := rfl
  rw [el, p_slices_Index_int_l0, e0, bnd_s, p_slices_Index_int_l0, e1, bnd_s, p_slices_Index_int_l0, e2, bnd_s, p_slices_Index_int_l0, cb_d, cb_d, cb_d]
  by_cases h1 : h = 1
  · simp [h1, bnd]
  · by_cases h2 : h = 2
    · simp [h2, bnd]
    · by_cases h4 : h = 4
      · simp [h4, bnd]
      · simp [h1, h2, h4, bnd]
theorem parts_eq (L : Nat) (hL : 1000 < L) (a h : Int) : p_spyref3_Parts L a h = some (ans a h) := by
  unfold p_spyref3_Parts ans
  have n0 : (([] : List Int).length : Int).toNat < L := by simp; omega
  have n1 : (([] : List Int).length : Int) < 4611686018427387904 := by decide
  have z0 : p_spyref3_Parts_l0 L (([] : List Int).length : Int).toNat 0 = some () := rfl
  have z4 : p_spyref3_Parts_l4 L (([] : List Int).length : Int).toNat 0 = some () := rfl
  by_cases c1 : a < -65536
  · rw [if_pos c1, if_pos (.inl c1), rq_t n0, rq_t n1, z0, bnd_s]
  by_cases c2 : a > 65536
  · rw [if_neg c1, if_pos c2, if_pos (.inr c2), rq_t n0, rq_t n1, z0, bnd_s]
  rw [if_neg c1, if_neg c2, if_neg (by omega), contains_eq L (by omega), bnd_s, cb_d]
  by_cases hh : h = 1 ∨ h = 2 ∨ h = 4
  · have hb' := hb hh
    have hok := ok_at hh (r := a / 16 % 16) (by omega) (by omega)
    unfold ok1 at hok
    simp only [Bool.and_eq_true, decide_eq_true_eq, List.all_eq_true] at hok
    obtain ⟨⟨k1, k2⟩, k3⟩ := hok
    have hl := parts_l L hh (g := a / 16) (o := a / 16 / 16) (r := a / 16 % 16) (by omega) (by omega) (by omega) (by omega) (32 * h - 1).toNat L (1 - 16 * h) [] (by omega) (by omega) (by omega)
    have hkl : (keysOf (pm h (a / 16 % 16))).length ≤ 100 := by unfold keysOf; rw [isort_len, List.length_map]; exact k3
    rw [if_pos hh, if_pos hh, shr4, w64 (x := 16 * h) (by omega), w64 (x := 1 - 16 * h) (by omega)]
    have q1 : ((sh (a / 16 / 16) (pm h (a / 16 % 16))).map (·.1)).all inI64 = true := by
      rw [List.all_eq_true]
      intro x hx
      rw [List.mem_map] at hx
      obtain ⟨p, hp, rfl⟩ := hx
      unfold sh at hp
      rw [List.mem_map] at hp
      obtain ⟨q, hq, rfl⟩ := hp
      have := k2 q hq
      unfold inI64
      simp only [Bool.and_eq_true, decide_eq_true_eq]
      omega
    have q2 : (sh (a / 16 / 16) (pm h (a / 16 % 16))).length * 8 ≤ maxRow := by rw [maxRow_v]; unfold sh; rw [List.length_map]; omega
    have q3 : ((keysOf (pm h (a / 16 % 16))).map (a / 16 / 16 + ·)).length < L := by rw [List.length_map]; omega
    have q4 := list_l L (sh (a / 16 / 16) (pm h (a / 16 % 16))) ((keysOf (pm h (a / 16 % 16))).map (a / 16 / 16 + ·)) [] (by simp; omega)
    rw [show p_spyref3_Parts_l2 L h (a / 16) L (1 - 16 * h) ([] : List (Int × Int)) = some (sh (a / 16 / 16) (pm h (a / 16 % 16))) from hl, bnd_s, keys_sh, rq_t q1, rq_t q2, rq_t q3, q4, bnd_s, ← k1]
    simp only [List.nil_append, List.map_map]
    congr 2
    apply List.map_congr_left
    intro k hk
    simp only [Function.comp, mapG_sh]
  · rw [if_neg hh, if_neg hh, rq_t n0, rq_t n1, z4, bnd_s]
theorem eqp (L : Nat) (a : List (Int × Int × Unit)) : ∀ (s p : List (Int × Int × Unit)), a = p ++ s → p_slices_Equal_Part_l0 L a a s.length (p.length : Int) = some (.inl ())
  | [], p, _ => rfl
  | x :: s, p, h => by
    have := eqp L a s (p ++ [x]) (by simp [h])
    rw [List.length_cons, p_slices_Equal_Part_l0, h, idx_app, bnd_s, bnd_s, ← h, show ((p.length : Int) + 1) = ((p ++ [x]).length : Int) by simp, this]
    simp [cb]
theorem eqp_eq (L : Nat) (a : List (Int × Int × Unit)) (hl : a.length < L) (hb : a.length < 4611686018427387904) : p_slices_Equal_Part L a a = some true := by
  have := eqp L a a [] rfl
  simp only [List.length_nil, Int.natCast_zero] at this
  unfold p_slices_Equal_Part
  rw [decide_eq_true rfl, cb_t, Int.toNat_natCast, rq_t hl, rq_t (by omega), this]; rfl
theorem axl_len (h r : Int) : ∀ (k : Nat) (c : Int), (axl h r c k).length ≤ k
  | 0, _ => by simp [axl]
  | k + 1, c => by
    have := axl_len h r k (c + 1)
    rw [axl]
    split <;> simp <;> omega
theorem ans_len (a h : Int) : (ans a h).1.length ≤ 100 := by
  unfold ans
  split
  · simp
  · split
    · have := axl_len h (a / 16 % 16) (2 * h + 3).toNat (-h - 1)
      simp only [List.length_map]
      omega
    · simp
theorem top (a0 : Int) (a1 : Int) (h0 : (Lit.int .i64 a0).wf = true) (h1 : (Lit.int .i64 a1).wf = true) : ∃ L, L ≤ 4611686018427387904 ∧ p_spylaw3_OpticsAxes L a0 a1 = some true := by
  obtain ⟨L, hL⟩ : ∃ L, L = 4611686018427387904 := ⟨_, rfl⟩
  refine ⟨L, by omega, ?_⟩
  have hl := ans_len a0 a1
  unfold p_spylaw3_OpticsAxes
  rw [axis_eq L (by omega), bnd_s, parts_eq L (by omega), bnd_s]
  simp only [show p_spylaw3_lenses L = some true from rfl, bnd_s, cb_t, decide_eq_true (rfl : (ans a0 a1).2 = (ans a0 a1).2), eqp_eq L (ans a0 a1).1 (by omega) (by omega), reach_eq, cb_d]
  by_cases h1 : a1 = 1
  · simp [h1]
  · by_cases h2 : a1 = 2
    · simp [h2]
    · by_cases h4 : a1 = 4
      · simp [h4]
      · simp [h1, h2, h4]
end Go.Proofs.Ytnopgienncmcmaa.PlOpticsAxes
end
section
set_option linter.unusedVariables false
set_option linter.unusedSimpArgs false
namespace Go.Proofs.Ytnopgienncmcmaa.opticsAxes
open Go.ChangeShapes Go.WideShapes Go.ChangeAt Go.RowKit
open Go.ChangeMaps (open_string shut_string)
open Go.Ev (Opens OpensF arg_agg arg_one weight_at law_calls call_of_ev ArgsOk D Fl)
theorem own : ownKnob Try.prog.godebug = none := by kernel_rfl
theorem laidOut : laidOutB Try.prog = true := by kernel_rfl
set_option maxRecDepth 100000 in
set_option maxHeartbeats 4000000 in
theorem lifted (os : Os) (started : os.Started) (H : Type) (enc : TypeId × Value → H) :
    ReturnsInHanded {} Try.checked os 4 .any (Rows.opticsAxesSpec.pre6 enc Try.prog Try.f4 Rows.opticsAxesRow.domain false) (Rows.opticsAxesSpec.post enc Try.prog Try.f4 false true false false) := by
  refine returnsInHanded_of_change_sized (C := Try.checked) own started (by kernel_rfl) Try.func4
    (ChangeSpec.witness6 (enc := enc) (C := Try.checked) false ⟨#[], #[.int .i64 0, .int .i64 0], []⟩ 8 (by kernel_rfl) (by kernel_rfl) (by kernel_rfl) (by kernel_rfl)) ?_
  intro W base args ds gs before hval0 hW hcnd hsz0 _
  have hsz : (DataW.weightsEach Try.prog (Try.f4.params.toList ++ Rows.opticsAxesSpec.plain.varTypes Try.prog) (ds ++ gs)).all (· ≤ reachBytes) = true := hsz0
  have hval : ∀ (j : Nat) t v, Try.f4.params[j]? = some t → args[j]? = some v → Value.okWide Try.prog W .any base t v := hval0
  have hW' := hW
  obtain ⟨p, q, hA0, hV, rfl, hfz, hnd⟩ := hW
  have hA : DataW.TrodAll enc Try.prog W 0 (fun _ => true) true Try.f4.params.toList args.toList ds p := hA0
  rw [Try.params4] at hA hval hsz
  obtain ⟨v0, vs0, d0, ds0, p0, q0, hargs, rfl, rfl, h0, r0⟩ := trodAll_cons hA
  obtain ⟨v1, vs1, d1, ds1, p1, q1, rfl, rfl, rfl, h1, r1⟩ := trodAll_cons r0
  obtain ⟨rfl, rfl, rfl⟩ := trodAll_nil r1
  obtain rfl : args = #[v0, v1] := by cases args; simp_all
  obtain ⟨rfl, rfl⟩ := trodVars_none hV
  obtain ⟨a0, rfl, rfl, rfl, hw0⟩ := open_int Try.underlying30 (hval 0 30 v0 rfl rfl) h0
  obtain ⟨a1, rfl, rfl, rfl, hw1⟩ := open_int Try.underlying3 (hval 1 3 v1 rfl rfl) h1
  clear hA0 hval0 hsz0 hsz
  obtain ⟨L, hL, hp⟩ := PlOpticsAxes.top a0 a1 hw0 hw1
  have ht := P.e_spylaw3_OpticsAxes L hL a0 a1 true hp
  have hok : ArgsOk Try.prog (Go.Ev.Old W) W [.int .i64 a0, .int .i64 a1] [(.int .i64 a0 : Value), (.int .i64 a1 : Value)] := fun σ st => ⟨_, _, rfl, arg_one rfl rfl, ⟨_, _, rfl, arg_one rfl rfl, rfl⟩⟩
  refine (law_calls Try.func4 (by kernel_rfl) (by kernel_rfl) (call_of_ev Ty.mixed (P.Go_spylaw3_OpticsAxes L hL) (P.To_spylaw3_OpticsAxes L) ht (fun _ h => h) hok)).mono fun e W' ⟨he, bel⟩ => ?_
  subst he
  exact ⟨_, rfl, _, _, _, [], _, [], hW', trodAll_mk1 (shut_bool Try.underlying4 _), (trodAll_cons_mk (shut_int Try.underlying30 hw0) (trodAll_cons_mk (shut_int Try.underlying3 hw1) trodAll_mk0)), rfl, bel.frame _, fun h => by cases h⟩
theorem over : Rows.opticsAxesRow.holds Try.pinned (OpenSpec.ofChange Rows.opticsAxesSpec) :=
  OpenClaim.holds_of_wide 4 Try.f4 rfl rfl rfl rfl rfl rfl rfl ⟨rfl, rfl, rfl, rfl, rfl⟩ rfl rfl rfl rfl rfl (by kernel_rfl) Try.func4 (by kernel_rfl)
    (of_decide_eq_true (by kernel_rfl)) (by unfold Func.isWrapper; first | (rw [if_pos (by decide +kernel)]; kernel_rfl) | (rw [if_neg (by decide +kernel)]; exact ⟨rfl, rfl⟩))
    (fun os started H enc _ => lifted os started H enc)
theorem proved : Rows.OpticsAxesSaid := over
#print axioms proved
end Go.Proofs.Ytnopgienncmcmaa.opticsAxes
namespace Go.Proofs.Ytnopgienncmcmaa
/-- The row, under a short name, for the claim. -/
theorem opticsAxes_holds : Rows.OpticsAxesSaid := opticsAxes.proved
end Go.Proofs.Ytnopgienncmcmaa
end
