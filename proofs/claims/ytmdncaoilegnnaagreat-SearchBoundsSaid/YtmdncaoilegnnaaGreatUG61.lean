/- garmentref31: less, insert. -/
import Derived.Test.YtmdncaoilegnnaaGreatUG56
import Derived.Test.YtmdncaoilegnnaaGreatUG60
namespace Go.Proofs.YtmdncaoilegnnaaGreat
set_option linter.unusedVariables false
set_option linter.unusedSimpArgs false
set_option linter.unusedVariables false
set_option linter.unusedSimpArgs false
open Go.RowKit

end Go.Proofs.YtmdncaoilegnnaaGreat
