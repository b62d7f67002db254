/- Chapter 22: what every program answers that is one. Conditions: none. -/
import Derived.Test.YtphinknjjdfgeaaTab22
import Derived.Test.YtphinknjjdfgeaaLib
import Derived.KernelRfl
namespace Mir
theorem r_awake : Run T f_curvetlaw22_awake [] [] = some (.b true, []) := (Run_some T).2 ⟨20, by kernel_rfl⟩
end Mir
