/- The abstract layer, part B3. -/
import Derived.Test.YtainnoaellcpdaaGreatDoorAbsB2
namespace Go.Abs
open Go
end Go.Abs
