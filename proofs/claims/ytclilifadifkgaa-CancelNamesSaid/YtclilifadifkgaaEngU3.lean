/-
  THE ENGINE, PART U3: the functions' code, as the engine makes it (printed by wip/tools/codes.py).
-/
import Derived.Test.YtclilifadifkgaaEngU2
namespace Go.Eng
end Go.Eng
