-- PRINTED BY print.sh 35421559b90ae4d0a3588c463048766b98c2df88dd9212a6774a882060cdf62d: not written by this session
import Derived.Test.YtjplkbeolakbjaaPMasterChecksx0
import Derived.Test.YtjplkbeolakbjaaPMasterChecksx1
import Derived.Test.YtjplkbeolakbjaaPMasterChecksx2
import Derived.Test.YtjplkbeolakbjaaPMasterChecksx3
import Derived.Test.YtjplkbeolakbjaaPMasterChecksx4
import Derived.Test.YtjplkbeolakbjaaPMasterChecksx5
import Derived.Test.YtjplkbeolakbjaaPMasterChecksx6
import Derived.Test.YtjplkbeolakbjaaPMasterChecksx7
import Derived.Test.YtjplkbeolakbjaaPMasterChecksx8
import Derived.Test.YtjplkbeolakbjaaPMasterChecksx9
import Derived.Test.YtjplkbeolakbjaaPMasterChecksx10
namespace Go.Proofs.Ytjplkbeolakbjaa.PMasterChecks
open Go.RowKit Go.Proofs.YtjplkbeolakbjaaW.PrintWords Go.Proofs.YtjplkbeolakbjaaW.PrintLast Go.Proofs.YtjplkbeolakbjaaW.PrintMore
attribute [local go_sem] max2_int min2_int max_two min_two max_three min_three max_four min_four   -- for this text's walks alone
set_option linter.unusedVariables false
set_option linter.unusedSimpArgs false

end Go.Proofs.Ytjplkbeolakbjaa.PMasterChecks
