/- One module of several texts (DivJ DivK DivM DivL DivN DivO DivP DivQ DivR RefO). Conditions: none. -/
import Derived.Test.YtmfbmdbabebhmaaGreatAllD
import Derived.Test.YtmfbmdbabebhmaaGreatAllR
import Derived.Test.YtmfbmdbabebhmaaGreatSig
set_option linter.unusedVariables false
set_option linter.unusedSimpArgs false
set_option exponentiation.threshold 5000
set_option maxRecDepth 20000
namespace Mir

end Mir

namespace Mir

end Mir

namespace Mir

end Mir

namespace Mir

end Mir

namespace Mir

end Mir

namespace Mir

end Mir

namespace Mir

end Mir

namespace Mir

end Mir

namespace Mir

end Mir

namespace Mir

end Mir

