/-
  Rising entries, one behind the other, in plain Lean: what a digest is behind them.
-/
import Derived.Test.YtdbdlhmgokllaaaS5
import Derived.Test.YtdbdlhmgokllaaaE5
namespace Go.Proofs.Ytdbdlhmgokllaaa
set_option linter.unusedVariables false
set_option linter.unusedSimpArgs false
set_option maxRecDepth 20000

end Go.Proofs.Ytdbdlhmgokllaaa
