import Derived.Test.YtfhhpdggmefcoaaMr
import Derived.Test.YtfhhpdggmefcoaaProg
import Derived.Test.YtfhhpdggmefcoaaMy
namespace Go.Proofs.Ytfhhpdggmefcoaa
open Go Go.Lt
set_option maxRecDepth 10000
set_option linter.unusedVariables false
attribute [local irreducible] W WL AC

end Go.Proofs.Ytfhhpdggmefcoaa
