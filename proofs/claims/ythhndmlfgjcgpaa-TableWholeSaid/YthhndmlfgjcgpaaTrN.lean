/-
 
-/
import Derived.Test.YthhndmlfgjcgpaaTrF
import Derived.Test.YthhndmlfgjcgpaaPc
namespace Go.Proofs.Ythhndmlfgjcgpaa.Sx
open Go
set_option linter.unusedVariables false
set_option linter.unusedSimpArgs false



end Go.Proofs.Ythhndmlfgjcgpaa.Sx
