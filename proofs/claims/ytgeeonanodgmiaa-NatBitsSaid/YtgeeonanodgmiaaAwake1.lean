/- Chapter 1: what every program answers that is one. Conditions: none. -/
import Derived.Test.YtgeeonanodgmiaaTab1
import Derived.Test.YtgeeonanodgmiaaLib
import Derived.KernelRfl
namespace Mir
theorem r_awake : Run T f_curvetlaw1_awake [] [] = some (.b true, []) := (Run_some T).2 ⟨20, by kernel_rfl⟩
end Mir
