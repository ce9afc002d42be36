/- Written by a program of this workplace out of the translation: Lean functions with the answers of the Go functions that the law reaches, and the proofs of that. Lean checks it. No conditions beyond those that each theorem states. -/
import Derived.Test.YtjplkbeolakbjaaPDecksx0
import Derived.Test.YtjplkbeolakbjaaPDecksx1
import Derived.Test.YtjplkbeolakbjaaPDecksx2
import Derived.Test.YtjplkbeolakbjaaPDecksx3
import Derived.Test.YtjplkbeolakbjaaPDecksx4
namespace Go.Proofs.Ytjplkbeolakbjaa.PDecks
open Go.RowKit Go.Proofs.YtjplkbeolakbjaaW.PrintWords Go.Proofs.YtjplkbeolakbjaaW.PrintLast Go.Proofs.YtjplkbeolakbjaaW.PrintMore
attribute [local go_sem] max2_int min2_int max_two min_two max_three min_three max_four min_four   -- for this text's walks alone
set_option linter.unusedVariables false
set_option linter.unusedSimpArgs false

end Go.Proofs.Ytjplkbeolakbjaa.PDecks
