/- One module of several texts (MonA MonB MonC MonD MonE MonF). Conditions: none. -/
import Derived.Test.YtmfbmdbabebhmaaAllE
import Derived.Test.YtmfbmdbabebhmaaAllN
import Derived.Test.YtmfbmdbabebhmaaSig
set_option linter.unusedVariables false
set_option linter.unusedSimpArgs false
set_option exponentiation.threshold 5000
set_option maxRecDepth 20000
set_option linter.unusedSectionVars false
namespace Mir

end Mir

namespace Mir

end Mir

namespace Mir

end Mir

namespace Mir

end Mir

namespace Mir

end Mir

namespace Mir

/-- A number that shares no part with m has an inverse. -/
theorem has_inv {a m : Nat} (h1 : 1 < m) (hg : Nat.gcd m a = 1) : ∃ i, i < m ∧ i * a % m = 1 := by
  have hmp : 0 < m := by omega
  have e0 : EuOk a m ⟨m, a % m, 0, 1⟩ := ⟨by simp only; omega, by simp only; omega, by simp only; omega, Nat.mod_lt _ hmp, by simp, by simp, by rw [Nat.gcd_comm]; exact (Nat.gcd_rec m a).symm⟩
  obtain ⟨n, hw, hn⟩ := eu_stop m (a % m) ⟨m, a % m, 0, 1⟩ (Nat.le_refl _)
  have hok := eu_ok e0 hw
  have he := hok n (Nat.le_refl n)
  have ho : (euAt m ⟨m, a % m, 0, 1⟩ n).o = 1 := by
    have := he.g
    rw [hn, Nat.gcd_zero_right, hg] at this
    exact this
  exact ⟨_, he.s, by rw [he.ws, ho]; exact Nat.mod_eq_of_lt (by omega)⟩

open Classical in
section
variable {m a b : Nat} (hm : m < M) (ho : m % 2 = 1) (h3 : 3 ≤ m)
include hm ho h3
end

end Mir

