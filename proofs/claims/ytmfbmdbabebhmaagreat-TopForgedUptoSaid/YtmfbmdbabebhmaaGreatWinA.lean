/- Chapter 17: how wide digits are. Conditions: none. -/
import Derived.Test.YtmfbmdbabebhmaaGreatAllN
set_option linter.unusedVariables false
set_option linter.unusedSimpArgs false
set_option exponentiation.threshold 5000
set_option maxRecDepth 20000
namespace Mir

theorem r_wide (z : Int) : Run T f_window_wide [.i z] [] = some (.b (decide (1 ≤ z ∧ z ≤ 6)), []) := by
  rw [Run_at T _ (show T f_window_wide = some m_window_wide from rfl)]
  simp only [c_window_wide]
  by_cases h1 : 1 ≤ z
  · have k1 : decide ((1 : Int) ≤ z) = true := by simp [h1]
    have k2 : decide (1 ≤ z ∧ z ≤ 6) = decide (z ≤ 6) := by simp [h1]
    simp only [EE,EX,Nat.reduceLeDiff,Nat.reduceEqDiff,Int.reduceEq,reduceCtorEq,Nat.reduceAdd,Nat.reduceMul,if_true,if_false,decide_true,decide_false, k1, k2]
  · have k1 : decide ((1 : Int) ≤ z) = false := by simp [h1]
    have k2 : decide (1 ≤ z ∧ z ≤ 6) = false := by simp [h1]
    simp only [EE,EX,Nat.reduceLeDiff,Nat.reduceEqDiff,Int.reduceEq,reduceCtorEq,Nat.reduceAdd,Nat.reduceMul,if_true,if_false,decide_true,decide_false, k1, k2]

end Mir
