/- garmentref11: Normal, Move. garmentref13: Split. -/
import Derived.Test.YtmdncaoilegnnaaGreatUG50
import Derived.Test.YtmdncaoilegnnaaGreatUG40
import Derived.Test.YtmdncaoilegnnaaGreatUG51
import Derived.BigRegion
namespace Go.Proofs.YtmdncaoilegnnaaGreat
set_option linter.unusedVariables false
set_option linter.unusedSimpArgs false
set_option linter.unusedVariables false
set_option linter.unusedSimpArgs false
open Go.RowKit

end Go.Proofs.YtmdncaoilegnnaaGreat

namespace Go.Proofs.YtmdncaoilegnnaaGreat
set_option linter.unusedVariables false
set_option linter.unusedSimpArgs false
set_option linter.unusedVariables false
set_option linter.unusedSimpArgs false
open Go.RowKit

namespace Ears
end Ears

end Go.Proofs.YtmdncaoilegnnaaGreat
