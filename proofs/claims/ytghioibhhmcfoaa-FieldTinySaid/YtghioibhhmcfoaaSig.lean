/- Eighteen words as two numbers. Conditions: none. -/
import Derived.Test.YtghioibhhmcfoaaAllN
set_option linter.unusedVariables false
set_option linter.unusedSimpArgs false
set_option exponentiation.threshold 5000
set_option maxRecDepth 20000
namespace Mir

theorem M18 : 2 ^ (64 * 18) = M * M := by rw [M64, ← Nat.pow_add]
end Mir
