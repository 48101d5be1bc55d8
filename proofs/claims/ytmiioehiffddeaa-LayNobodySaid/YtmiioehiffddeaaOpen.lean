/- Opening arguments: what a reading says of a slice that came in. -/
import Derived.Test.YtmiioehiffddeaaWd
import Derived.ProofKit
import Derived.OpenShut
set_option linter.unusedVariables false
namespace Go.Proofs.Ytmiioehiffddeaa.Opn
open Go.RowKit Go.Proofs.Ytmiioehiffddeaa.Wd Go.ChangeShapes Go.WideShapes Go.ChangeAt
end Go.Proofs.Ytmiioehiffddeaa.Opn
