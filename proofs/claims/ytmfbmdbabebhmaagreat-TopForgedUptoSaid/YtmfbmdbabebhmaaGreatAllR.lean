/- One module of several texts (RefD RefE RefF RefG RefH). Conditions: none. -/
import Derived.Test.YtmfbmdbabebhmaaGreatAllN
set_option linter.unusedVariables false
set_option linter.unusedSimpArgs false
set_option exponentiation.threshold 5000
set_option maxRecDepth 20000
namespace Mir

end Mir

namespace Mir

end Mir

namespace Mir

end Mir

namespace Mir

end Mir

namespace Mir

end Mir

