/- garmentref16: Spots. -/
import Derived.Test.YtmdncaoilegnnaaGreatUG56
namespace Go.Proofs.YtmdncaoilegnnaaGreat
set_option linter.unusedVariables false
set_option linter.unusedSimpArgs false
set_option linter.unusedVariables false
set_option linter.unusedSimpArgs false
open Go.RowKit

namespace Ears
end Ears

end Go.Proofs.YtmdncaoilegnnaaGreat
