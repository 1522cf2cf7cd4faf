/- garmentref16: Less, insert, put; ascending lists. garmentref16: insert, put, within. -/
import Derived.Test.YtmdncaoilegnnaaGreatUG54
import Derived.Test.YtmdncaoilegnnaaGreatUG52
import Derived.Test.YtmdncaoilegnnaaGreatUG17
import Derived.Test.YtmdncaoilegnnaaGreatUC
namespace Go.Proofs.YtmdncaoilegnnaaGreat
set_option linter.unusedVariables false
set_option linter.unusedSimpArgs false
set_option linter.unusedVariables false
set_option linter.unusedSimpArgs false
open Go.RowKit

section
variable {α : Type} {lt : α → α → Bool}
end

end Go.Proofs.YtmdncaoilegnnaaGreat

namespace Go.Proofs.YtmdncaoilegnnaaGreat
set_option linter.unusedVariables false
set_option linter.unusedSimpArgs false
set_option linter.unusedVariables false
set_option linter.unusedSimpArgs false
open Go.RowKit

section
variable {α : Type} {lt : α → α → Bool} {ls out : List α} {r x : α} {i : Nat}
end

end Go.Proofs.YtmdncaoilegnnaaGreat
