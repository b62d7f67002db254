/- Chapter 17: what every program answers that is one (slices handed out). Conditions: none. -/
import Derived.Test.YtgefbjnbmdhakaaTabW
import Derived.Test.YtgefbjnbmdhakaaLib
import Derived.Test.YtgefbjnbmdhakaaEv2
import Derived.KernelRfl
set_option maxRecDepth 100000
namespace Mir
theorem r_awake : Run T f_curvetlaw17_awake [] [] = some (.b true, []) := (Run_some T).2 ⟨30, by kernel_rfl⟩
end Mir
