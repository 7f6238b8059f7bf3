/- Proved: the law FnExactLessString answers true for every two strings; no condition. -/
import Derived.Test.YtdepfcejgbnkdaaPFnExactLessStringx1
import Derived.Test.YtdepfcejgbnkdaaBase
set_option linter.unusedVariables false
set_option linter.unusedSimpArgs false
namespace Go.Proofs.Ytdepfcejgbnkdaa.Pure
open Go.RowKit Go.Proofs.Ytdepfcejgbnkdaa.PFnExactLessString Go.Proofs.YtdepfcejgbnkdaaW.PrintWords Go.Proofs.YtdepfcejgbnkdaaW.PrintLast Go.Proofs.Ytdepfcejgbnkdaa.Base

theorem FnExactLessString : laws_FnExactLessString.Pure := by
  intro a b _ _
  unfold laws_FnExactLessString.f spec_LessString.f impl_LessString.f
  simp

end Go.Proofs.Ytdepfcejgbnkdaa.Pure
