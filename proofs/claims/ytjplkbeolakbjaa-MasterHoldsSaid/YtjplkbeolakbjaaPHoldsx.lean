/- Written by a program of this workplace out of the translation: Lean functions with the answers of the Go functions that the law reaches, and the proofs of that. Lean checks it. No conditions beyond those that each theorem states. -/
import Derived.Test.YtjplkbeolakbjaaPHoldsx0
import Derived.Test.YtjplkbeolakbjaaPHoldsx1
import Derived.Test.YtjplkbeolakbjaaPHoldsx2
import Derived.Test.YtjplkbeolakbjaaPHoldsx3
import Derived.Test.YtjplkbeolakbjaaPHoldsx4
import Derived.Test.YtjplkbeolakbjaaPHoldsx5
import Derived.Test.YtjplkbeolakbjaaPHoldsx6
import Derived.Test.YtjplkbeolakbjaaPHoldsx7
import Derived.Test.YtjplkbeolakbjaaPHoldsx8
import Derived.Test.YtjplkbeolakbjaaPHoldsx9
namespace Go.Proofs.Ytjplkbeolakbjaa.PHolds
open Go.RowKit Go.Proofs.YtjplkbeolakbjaaW.PrintWords Go.Proofs.YtjplkbeolakbjaaW.PrintLast Go.Proofs.YtjplkbeolakbjaaW.PrintMore
attribute [local go_sem] max2_int min2_int max_two min_two max_three min_three max_four min_four   -- for this text's walks alone
set_option linter.unusedVariables false
set_option linter.unusedSimpArgs false

end Go.Proofs.Ytjplkbeolakbjaa.PHolds
