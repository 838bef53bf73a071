/-
  The readings, part 2.
-/
import Derived.Test.YtpdnddcodnpmeaaGreatDoorQ855ca3e0
import Derived.Test.YtpdnddcodnpmeaaGreatDoorQd5ec66e2
import Derived.Test.YtpdnddcodnpmeaaGreatDoorQ952b5fe2
set_option linter.unusedVariables false
set_option maxRecDepth 100000
namespace Go.Fx
open Go.Proofs
variable {t0 t1 t2 t3 t4 t5 t6 t7 t8 t9 : Value} {w : World} {Q : KR}
end Go.Fx
