/- What the laws' own functions do with decoders. -/
import Derived.Test.YtbgejldjgkihaaaDec
namespace Go.Proofs.Ytbgejldjgkihaaa
set_option linter.unusedSimpArgs false
set_option linter.unusedVariables false
open Go.ChangeShapes Go.WideShapes Go.ChangeAt Go.RowKit Go.BigFrame

end Go.Proofs.Ytbgejldjgkihaaa
