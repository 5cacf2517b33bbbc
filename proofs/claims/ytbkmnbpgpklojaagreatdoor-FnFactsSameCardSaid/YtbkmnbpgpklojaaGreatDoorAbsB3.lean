/- The abstract layer, part B3. -/
import Derived.Test.YtbkmnbpgpklojaaGreatDoorAbsB2
namespace Go.Abs
open Go
end Go.Abs
