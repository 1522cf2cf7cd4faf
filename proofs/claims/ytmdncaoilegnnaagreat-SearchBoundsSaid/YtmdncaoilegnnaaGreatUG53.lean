/- garmentref14: distance, wrap. -/
import Derived.Test.YtmdncaoilegnnaaGreatUG52
import Derived.Test.YtmdncaoilegnnaaGreatUG50
import Derived.Test.YtmdncaoilegnnaaGreatUG41
namespace Go.Proofs.YtmdncaoilegnnaaGreat
set_option linter.unusedVariables false
set_option linter.unusedSimpArgs false
set_option linter.unusedVariables false
set_option linter.unusedSimpArgs false
open Go.RowKit

end Go.Proofs.YtmdncaoilegnnaaGreat
