/- What the print has laid for this seat. -/
import Derived.Test.YtagkobpbhfkmdaaQx0
import Derived.Test.YtagkobpbhfkmdaaQx3
import Derived.Test.YtagkobpbhfkmdaaQx4
import Derived.Test.YtagkobpbhfkmdaaQx6
namespace Go.Proofs.Ytagkobpbhfkmdaa.C
end Go.Proofs.Ytagkobpbhfkmdaa.C
