/- garmentref30: On, Matched, Extent. garmentref30: Matched, Extent. garmentref31: matched, less, insert; garmentref11: Box. -/
import Derived.Test.YtmdncaoilegnnaaGreatUG59
import Derived.Test.YtmdncaoilegnnaaGreatUE
import Derived.Test.YtmdncaoilegnnaaGreatUG24
import Derived.Test.YtmdncaoilegnnaaGreatUG18
import Derived.Test.YtmdncaoilegnnaaGreatUG56
import Derived.Test.YtmdncaoilegnnaaGreatUB
namespace Go.Proofs.YtmdncaoilegnnaaGreat
set_option linter.unusedVariables false
set_option linter.unusedSimpArgs false
set_option linter.unusedVariables false
set_option linter.unusedSimpArgs false
open Go.RowKit

end Go.Proofs.YtmdncaoilegnnaaGreat

namespace Go.Proofs.YtmdncaoilegnnaaGreat
set_option linter.unusedVariables false
set_option linter.unusedSimpArgs false
set_option linter.unusedVariables false
set_option linter.unusedSimpArgs false
open Go.RowKit

end Go.Proofs.YtmdncaoilegnnaaGreat

namespace Go.Proofs.YtmdncaoilegnnaaGreat
set_option linter.unusedVariables false
set_option linter.unusedSimpArgs false
set_option linter.unusedVariables false
set_option linter.unusedSimpArgs false
open Go.RowKit

end Go.Proofs.YtmdncaoilegnnaaGreat
