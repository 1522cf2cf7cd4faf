/- garmentref14: Within at its bound, Hull, Sum, Interior. -/
import Derived.Test.YtmdncaoilegnnaaGreatUG53
import Derived.Test.YtmdncaoilegnnaaGreatUG42
namespace Go.Proofs.YtmdncaoilegnnaaGreat
set_option linter.unusedVariables false
set_option linter.unusedSimpArgs false
set_option linter.unusedVariables false
set_option linter.unusedSimpArgs false
open Go.RowKit

namespace Ears
end Ears

end Go.Proofs.YtmdncaoilegnnaaGreat
