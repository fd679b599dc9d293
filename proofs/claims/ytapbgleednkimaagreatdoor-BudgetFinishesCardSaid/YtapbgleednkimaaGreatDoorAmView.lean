/- Views of the abstract machine's values: slices as lists. -/
import Derived.Test.YtapbgleednkimaaGreatDoorAmW2
import Derived.Test.YtapbgleednkimaaGreatDoorAmEnd2
import Derived.Test.YtapbgleednkimaaGreatDoorAmK4
set_option linter.unusedVariables false
set_option linter.unusedSimpArgs false
namespace Go.Am
def AV.blk:AV->Nat
 | .slice _ _ b _ _=>b
 | .ptr b _=>b
 | _=>0
def AV.off:AV->Nat
 | .slice _ _ _ o _=>o
 | .ptr _ o=>o
 | _=>0
end Go.Am

