/- Mix, Below and Draw against the reference's Mixed, Under and Drawn, as printed for the law. No conditions beyond the stated ranges. -/
import Derived.Test.YtjplkbeolakbjaaPDecksx
import Derived.Test.YtjplkbeolakbjaaMulDecks
set_option linter.unusedVariables false
set_option linter.unusedSimpArgs false
namespace Go.Proofs.Ytjplkbeolakbjaa.Pure
open Go.RowKit Go.Proofs.Ytjplkbeolakbjaa.PDecks Go.Proofs.YtjplkbeolakbjaaW.PrintWords Go.Proofs.YtjplkbeolakbjaaW.PrintLast Go.Proofs.YtjplkbeolakbjaaW.PrintMore

theorem mixed_mix (s n : Int) : spyref3_Mixed.f 4 s n = quanta_Mix.f s n := by
  have e : IntKind.u64.wrap (IntKind.u64.wrap (s + IntKind.u64.wrap (IntKind.u64.wrap n * 11400714819323198485)) + 11400714819323198485) = IntKind.u64.wrap (s + IntKind.u64.wrap (IntKind.u64.wrap (wrap64 (n + 1)) * 11400714819323198485)) := by
    simp only [wu, wrap64]; omega
  unfold spyref3_Mixed.f quanta_Mix.f
  rw [e]
  generalize IntKind.u64.wrap (s + IntKind.u64.wrap (IntKind.u64.wrap (wrap64 (n + 1)) * 11400714819323198485)) = x
  have s30 : ∀ y : Int, shr .u64 y 30 = y / 1073741824 := fun y => rfl
  have s27 : ∀ y : Int, shr .u64 y 27 = y / 134217728 := fun y => rfl
  have s31 : ∀ y : Int, shr .u64 y 31 = y / 2147483648 := fun y => rfl
  have w1 : wrap64 (0 + 1) = 1 := by unfold wrap64; omega
  have w2 : wrap64 (1 + 1) = 2 := by unfold wrap64; omega
  have w3 : wrap64 (2 + 1) = 3 := by unfold wrap64; omega
  simp only [Option.bind_some, spyref3_Mixed.l0, rd_T97, List.length_cons, List.length_nil, w1, w2, w3]
  simp [s30, s27, s31]
  exact wu_id (bits_bd _ _ _).1 (bits_bd _ _ _).2
theorem mixed_at (k : Nat) (hk : 4 ≤ k) (s n : Int) : spyref3_Mixed.f k s n = quanta_Mix.f s n := by
  have e := mixed_mix s n
  cases h : quanta_Mix.f s n with
  | none => unfold quanta_Mix.f at h; cases h
  | some x => rw [h] at e; exact at_rounds (g := fun k => spyref3_Mixed.f k s n) (fun k => spyref3_Mixed.mono s n k) hk e
theorem mix_some (s n : Int) : ∃ x, quanta_Mix.f s n = some x ∧ 0 ≤ x ∧ x < 18446744073709551616 := ⟨_, rfl, (bits_bd _ _ _).1, (bits_bd _ _ _).2⟩
theorem below_under (x m : Int) : spyref3_Under.f x m = quanta_Below.f x m := by
  unfold spyref3_Under.f quanta_Below.f bits_Mul64.f
  simp only [Option.bind_some]
  split
  · rfl
  · rw [Int.add_comm (IntKind.u64.wrap (Go.bits BinOp.and IntKind.u64 x 4294967295 * (IntKind.u64.wrap m / 4294967296)))]
theorem below_some (x m : Int) : ∃ r, quanta_Below.f x m = some r := by
  unfold quanta_Below.f bits_Mul64.f
  simp only [Option.bind_some]
  split <;> exact ⟨_, rfl⟩
end Go.Proofs.Ytjplkbeolakbjaa.Pure
