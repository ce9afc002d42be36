/- bits.Mul64, quanta.Below, the reference's Under, and the root by bits, as printed for the law: what they answer. Conditions: the arguments are words of their kinds. -/
import Derived.Test.YtjplkbeolakbjaaPDecksx
import Derived.Test.YtjplkbeolakbjaaBitsDecks
set_option linter.unusedVariables false
set_option linter.unusedSimpArgs false
namespace Go.Proofs.Ytjplkbeolakbjaa.Pure
open Go.RowKit Go.Proofs.Ytjplkbeolakbjaa.PDecks Go.Proofs.YtjplkbeolakbjaaW.PrintWords Go.Proofs.YtjplkbeolakbjaaW.PrintLast Go.Proofs.YtjplkbeolakbjaaW.PrintMore

theorem mul64 (a b : Int) (ha0 : 0 ≤ a) (ha : a < 18446744073709551616) (hb0 : 0 ≤ b) (hb : b < 18446744073709551616) :
    bits_Mul64.f a b = some (a * b / 18446744073709551616, a * b % 18446744073709551616) := by
  unfold bits_Mul64.f
  rw [and32 a ha0 ha, and32 b hb0 hb]
  obtain ⟨p11, p10, p01, p00, e1, e2, e3, e4, b1, b2, b3, b4, b5, b6, b7, b8, e⟩ := halves (a / 4294967296) (a % 4294967296) (b / 4294967296) (b % 4294967296) (by omega) (by omega) (by omega) (by omega)
  rw [Int.mul_ediv_add_emod, Int.mul_ediv_add_emod] at e
  rw [e1, e2, e3, e4, e, and32 _ (wu_bd _).1 (wu_bd _).2]
  simp only [wu]
  congr 2
  omega
end Go.Proofs.Ytjplkbeolakbjaa.Pure
