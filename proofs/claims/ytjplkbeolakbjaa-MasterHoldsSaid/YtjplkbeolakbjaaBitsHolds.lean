/- Plain facts on 64-bit words: wraps, masks, and bits.Mul64 as printed for the law. No conditions beyond the stated ranges. -/
import Derived.Test.YtjplkbeolakbjaaPHoldsx0
import Derived.Laws.BitsLemmas
set_option linter.unusedVariables false
set_option linter.unusedSimpArgs false
namespace Go.Proofs.Ytjplkbeolakbjaa.Pure
open Go.RowKit Go.Proofs.YtjplkbeolakbjaaW.PrintWords Go.Proofs.YtjplkbeolakbjaaW.PrintLast Go.Proofs.YtjplkbeolakbjaaW.PrintMore

/-- Binds and tests as equations that are not by sight: the kernel then compares no bodies. -/
theorem ob {α β : Type} (a : α) (f : α → Option β) : (some a).bind f = f a := by rw [Option.bind_some]
theorem it {α : Type} {h : Decidable True} (a b : α) : @ite α True h a b = a := by rw [if_pos trivial]
theorem itf {α : Type} {h : Decidable False} (a b : α) : @ite α False h a b = b := by rw [if_neg (fun x => x)]
theorem tt_ : (true = true) = True := by simp
theorem ft_ : (false = true) = False := by simp
theorem wu (n : Int) : IntKind.u64.wrap n = n % 18446744073709551616 := by simp [IntKind.wrap, IntKind.bits, IntKind.signed]
theorem wu_bd (n : Int) : 0 ≤ IntKind.u64.wrap n ∧ IntKind.u64.wrap n < 18446744073709551616 := by rw [wu]; omega
theorem wu_id {n : Int} (h0 : 0 ≤ n) (h1 : n < 18446744073709551616) : IntKind.u64.wrap n = n := by rw [wu]; omega
theorem wu_wu (n : Int) : IntKind.u64.wrap (IntKind.u64.wrap n) = IntKind.u64.wrap n := by rw [wu, wu]; omega
theorem w64_id {n : Int} (h0 : -9223372036854775808 ≤ n) (h1 : n ≤ 9223372036854775807) : wrap64 n = n := by unfold wrap64; omega
theorem u64_of {a : Int} (h : (Lit.int .u64 a).wf = true) : 0 ≤ a ∧ a < 18446744073709551616 := by
  simp [Lit.wf, IntKind.min, IntKind.max, IntKind.signed, IntKind.bits] at h; omega
theorem i64_of {a : Int} (h : (Lit.int .i64 a).wf = true) : -9223372036854775808 ≤ a ∧ a ≤ 9223372036854775807 := by
  simp [Lit.wf, IntKind.min, IntKind.max, IntKind.signed, IntKind.bits] at h; omega
theorem bits_bd (o : BinOp) (x y : Int) : 0 ≤ Go.bits o .u64 x y ∧ Go.bits o .u64 x y < 18446744073709551616 := by unfold Go.bits; exact wu_bd _
theorem and32 (x : Int) (h0 : 0 ≤ x) (h1 : x < 18446744073709551616) : Go.bits .and .u64 x 4294967295 = x % 4294967296 := by
  have := bits_mask .u64 64 (by decide) (fun n h0 h1 => by rw [wu]; omega) 32 (by decide) x h0 (by simpa using h1)
  simpa using this
theorem mul_bd {x y m n : Int} (hx0 : 0 ≤ x) (hx : x ≤ m) (hy0 : 0 ≤ y) (hy : y ≤ n) : 0 ≤ x * y ∧ x * y ≤ m * n :=
  ⟨Int.mul_nonneg hx0 hy0, Int.mul_le_mul hx hy hy0 (by omega)⟩
/-- x - y for the two halves of a product of two 64-bit words. -/
theorem halves (x1 x0 y1 y0 : Int) (h1 : 0 ≤ x1 ∧ x1 < 4294967296) (h2 : 0 ≤ x0 ∧ x0 < 4294967296) (h3 : 0 ≤ y1 ∧ y1 < 4294967296) (h4 : 0 ≤ y0 ∧ y0 < 4294967296) :
    ∃ p11 p10 p01 p00 : Int, x1 * y1 = p11 ∧ x1 * y0 = p10 ∧ x0 * y1 = p01 ∧ x0 * y0 = p00 ∧ 0 ≤ p11 ∧ p11 ≤ 18446744065119617025 ∧ 0 ≤ p10 ∧ p10 ≤ 18446744065119617025 ∧ 0 ≤ p01 ∧ p01 ≤ 18446744065119617025 ∧ 0 ≤ p00 ∧ p00 ≤ 18446744065119617025 ∧
      (4294967296 * x1 + x0) * (4294967296 * y1 + y0) = 18446744073709551616 * p11 + 4294967296 * (p10 + p01) + p00 := by
  have a := mul_bd h1.1 (show x1 ≤ 4294967295 by omega) h3.1 (show y1 ≤ 4294967295 by omega)
  have b := mul_bd h1.1 (show x1 ≤ 4294967295 by omega) h4.1 (show y0 ≤ 4294967295 by omega)
  have c := mul_bd h2.1 (show x0 ≤ 4294967295 by omega) h3.1 (show y1 ≤ 4294967295 by omega)
  have d := mul_bd h2.1 (show x0 ≤ 4294967295 by omega) h4.1 (show y0 ≤ 4294967295 by omega)
  refine ⟨_, _, _, _, rfl, rfl, rfl, rfl, a.1, by omega, b.1, by omega, c.1, by omega, d.1, by omega, ?_⟩
  grind
end Go.Proofs.Ytjplkbeolakbjaa.Pure
