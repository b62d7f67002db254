/- Eighteen words as two numbers. Conditions: none. -/
import Derived.Test.YtmfbmdbabebhmaaAllN
set_option linter.unusedVariables false
set_option linter.unusedSimpArgs false
set_option exponentiation.threshold 5000
set_option maxRecDepth 20000
namespace Mir

end Mir
