/-
  The readings, part 2.
-/
import Derived.Test.YtpdnddcodnpmeaaGreatDoorQc424ea71
import Derived.Test.YtpdnddcodnpmeaaGreatDoorQb0844cbb
import Derived.Test.YtpdnddcodnpmeaaGreatDoorQc292c3fc
set_option linter.unusedVariables false
set_option maxRecDepth 100000
namespace Go.Fx
open Go.Proofs
variable {t0 t1 t2 t3 t4 t5 t6 t7 t8 t9 : Value} {w : World} {Q : KR}
end Go.Fx
