/- garmentref16: put, within. garmentref16: Regions, Blocks. -/
import Derived.Test.YtmdncaoilegnnaaGreatUG55
namespace Go.Proofs.YtmdncaoilegnnaaGreat
set_option linter.unusedVariables false
set_option linter.unusedSimpArgs false
set_option linter.unusedVariables false
set_option linter.unusedSimpArgs false
open Go.RowKit

end Go.Proofs.YtmdncaoilegnnaaGreat

namespace Go.Proofs.YtmdncaoilegnnaaGreat
set_option linter.unusedVariables false
set_option linter.unusedSimpArgs false
set_option linter.unusedVariables false
set_option linter.unusedSimpArgs false
open Go.RowKit

namespace Ears
end Ears

end Go.Proofs.YtmdncaoilegnnaaGreat
