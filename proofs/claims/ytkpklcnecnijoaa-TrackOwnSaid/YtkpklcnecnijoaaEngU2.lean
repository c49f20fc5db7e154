/-
  THE ENGINE, PART U2: the functions' code, as the engine makes it (printed by wip/tools/codes.py).
-/
import Derived.Test.YtkpklcnecnijoaaEngU1
namespace Go.Eng
end Go.Eng
