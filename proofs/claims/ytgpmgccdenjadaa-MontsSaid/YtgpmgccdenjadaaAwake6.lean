/- Chapter 6: what the laws ask first. Conditions: none. -/
import Derived.Test.YtgpmgccdenjadaaTab6
import Derived.Test.YtgpmgccdenjadaaEv2
import Derived.KernelRfl
set_option maxRecDepth 100000
namespace Mir
theorem r_awake : Run T f_curvetlaw6_awake [] [] = some (.b true, []) := (Run_some T).2 ⟨30, by kernel_rfl⟩
end Mir
