/- The reference's candidates in plain words: the program's. garmentref31: places. -/
import Derived.Test.YtmdncaoilegnnaaGreatUG30
import Derived.Test.YtmdncaoilegnnaaGreatUG28
import Derived.Test.YtmdncaoilegnnaaGreatUG57
import Derived.Test.YtmdncaoilegnnaaGreatUG61
import Derived.Test.YtmdncaoilegnnaaGreatUG79
namespace Go.Proofs.YtmdncaoilegnnaaGreat
set_option linter.unusedVariables false
set_option linter.unusedSimpArgs false
set_option linter.unusedVariables false
set_option linter.unusedSimpArgs false
open Go.RowKit

end Go.Proofs.YtmdncaoilegnnaaGreat

namespace Go.Proofs.YtmdncaoilegnnaaGreat
set_option linter.unusedVariables false
set_option linter.unusedSimpArgs false
set_option linter.unusedVariables false
set_option linter.unusedSimpArgs false
open Go.RowKit

end Go.Proofs.YtmdncaoilegnnaaGreat
