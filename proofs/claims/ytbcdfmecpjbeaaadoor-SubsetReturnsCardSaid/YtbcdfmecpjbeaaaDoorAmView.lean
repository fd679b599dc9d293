/- Views of the abstract machine's values: slices as lists. -/
import Derived.Test.YtbcdfmecpjbeaaaDoorAmW2
import Derived.Test.YtbcdfmecpjbeaaaDoorAmArgs
import Derived.Test.YtbcdfmecpjbeaaaDoorAmK4
set_option linter.unusedVariables false
set_option linter.unusedSimpArgs false
namespace Go.Am
def AV.blk:AV→Nat
 | .slice _ _ b _ _=>b
 | .ptr b _=>b
 | _=>0
def AV.off:AV→Nat
 | .slice _ _ _ o _=>o
 | .ptr _ o=>o
 | _=>0
end Go.Am

