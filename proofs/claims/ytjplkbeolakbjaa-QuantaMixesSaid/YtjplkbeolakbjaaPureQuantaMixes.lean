/- The law QuantaMixes: Mix and Below answer as the reference's Mixed and Under for all seeds, numbers and sizes. No conditions. -/
import Derived.Test.YtjplkbeolakbjaaPQuantaMixesx2
import Derived.Test.YtjplkbeolakbjaaBitsQuantaMixes
namespace Go.Proofs.Ytjplkbeolakbjaa.Pure
open Go.RowKit Go.Proofs.Ytjplkbeolakbjaa.PQuantaMixes Go.Proofs.YtjplkbeolakbjaaW.PrintWords Go.Proofs.YtjplkbeolakbjaaW.PrintLast Go.Proofs.YtjplkbeolakbjaaW.PrintMore

theorem draws_mixes : spylaw3_draws.f 200 = some true := by kernel_rfl

theorem mixed_mix (s n : Int) : spyref3_Mixed.f 4 s n = quanta_Mix.f s n := by
  have e : IntKind.u64.wrap (IntKind.u64.wrap (s + IntKind.u64.wrap (IntKind.u64.wrap n * 11400714819323198485)) + 11400714819323198485) = IntKind.u64.wrap (s + IntKind.u64.wrap (IntKind.u64.wrap (wrap64 (n + 1)) * 11400714819323198485)) := by
    simp only [wu, wrap64]; omega
  unfold spyref3_Mixed.f quanta_Mix.f
  rw [e]
  generalize IntKind.u64.wrap (s + IntKind.u64.wrap (IntKind.u64.wrap (wrap64 (n + 1)) * 11400714819323198485)) = x
  have s30 : ∀ y : Int, shr .u64 y 30 = y / 1073741824 := fun y => rfl
  have s27 : ∀ y : Int, shr .u64 y 27 = y / 134217728 := fun y => rfl
  have s31 : ∀ y : Int, shr .u64 y 31 = y / 2147483648 := fun y => rfl
  have w1 : wrap64 (0 + 1) = 1 := by unfold wrap64; omega
  have w2 : wrap64 (1 + 1) = 2 := by unfold wrap64; omega
  have w3 : wrap64 (2 + 1) = 3 := by unfold wrap64; omega
  simp only [Option.bind_some, spyref3_Mixed.l0, rd_T97, List.length_cons, List.length_nil, w1, w2, w3]
  simp [s30, s27, s31]
  exact wu_id (bits_bd _ _ _).1 (bits_bd _ _ _).2

theorem below_under (x m : Int) : spyref3_Under.f x m = quanta_Below.f x m := by
  unfold spyref3_Under.f quanta_Below.f bits_Mul64.f
  simp only [Option.bind_some]
  split
  · rfl
  · rw [Int.add_comm (IntKind.u64.wrap (Go.bits BinOp.and IntKind.u64 x 4294967295 * (IntKind.u64.wrap m / 4294967296)))]

theorem below_some (x m : Int) : ∃ r, quanta_Below.f x m = some r := by
  unfold quanta_Below.f bits_Mul64.f
  simp only [Option.bind_some]
  split <;> exact ⟨_, rfl⟩

theorem QuantaMixes : spylaw3_QuantaMixes.Pure := by
  intro s n m _ _ _
  refine ⟨200, ?_⟩
  have hm : spyref3_Mixed.f 200 s n = quanta_Mix.f s n := by
    have e := mixed_mix s n
    cases h : quanta_Mix.f s n with
    | none => unfold quanta_Mix.f at h; cases h
    | some x => rw [h] at e; exact at_rounds (g := fun k => spyref3_Mixed.f k s n) (fun k => spyref3_Mixed.mono s n k) (by omega) e
  obtain ⟨x, hx⟩ : ∃ x, quanta_Mix.f s n = some x := ⟨_, rfl⟩
  obtain ⟨r, hr⟩ := below_some x m
  obtain ⟨q, hq⟩ := below_some s m
  unfold spylaw3_QuantaMixes.f
  rw [hm, draws_mixes, hx]
  simp only [Option.bind_some, if_true]
  rw [below_under, below_under, hr, hq]
  simp
end Go.Proofs.Ytjplkbeolakbjaa.Pure
