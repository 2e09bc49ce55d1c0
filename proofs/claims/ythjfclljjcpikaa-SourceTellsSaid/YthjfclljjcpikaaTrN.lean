/-
 
-/
import Derived.Test.YthjfclljjcpikaaTrF
import Derived.Test.YthjfclljjcpikaaPc
namespace Go.Proofs.Ythjfclljjcpikaa.Sx
open Go
set_option linter.unusedVariables false
set_option linter.unusedSimpArgs false



end Go.Proofs.Ythjfclljjcpikaa.Sx
