/- Proved: the law FnExactConstants answers true; no condition. -/
import Derived.Test.YtdepfcejgbnkdaaPFnExactConstantsx1
import Derived.Test.YtdepfcejgbnkdaaBase
set_option linter.unusedVariables false
set_option linter.unusedSimpArgs false
namespace Go.Proofs.Ytdepfcejgbnkdaa.Pure
open Go.RowKit Go.Proofs.Ytdepfcejgbnkdaa.PFnExactConstants Go.Proofs.YtdepfcejgbnkdaaW.PrintWords Go.Proofs.YtdepfcejgbnkdaaW.PrintLast Go.Proofs.Ytdepfcejgbnkdaa.Base

theorem FnExactConstants : laws_FnExactConstants.Pure := rfl

end Go.Proofs.Ytdepfcejgbnkdaa.Pure
