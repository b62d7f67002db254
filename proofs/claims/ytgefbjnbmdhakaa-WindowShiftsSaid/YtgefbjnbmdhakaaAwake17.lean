/- Chapter 17: what every program answers that is one. Conditions: none. -/
import Derived.Test.YtgefbjnbmdhakaaTab17
import Derived.Test.YtgefbjnbmdhakaaLib
import Derived.KernelRfl
namespace Mir
theorem r_awake : Run T f_curvetlaw17_awake [] [] = some (.b true, []) := (Run_some T).2 ⟨20, by kernel_rfl⟩

end Mir
