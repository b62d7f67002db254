/- Eighteen words as two numbers. Conditions: none. -/
import Derived.Test.YtmfbmdbabebhmaaGreatAllN
set_option linter.unusedVariables false
set_option linter.unusedSimpArgs false
set_option exponentiation.threshold 5000
set_option maxRecDepth 20000
namespace Mir

theorem sig_lo (z : Nat) : part (us 64 (dl 64 18 z)) 0 (some 9) = some (natv (z % M)) := by
  have e : (us 64 (dl 64 18 z)).length = 18 := by rw [us_len, dl_len]
  simp only [part, e, natv]
  rw [if_pos (by omega), List.drop_zero, us_take, dl, tb_take (by omega : 9 ≤ 18)]
  rw [M64, dl_mod]; rfl
theorem sig_hi {z : Nat} : part (us 64 (dl 64 18 z)) 9 (some 9) = some (natv (z / M)) := by
  have e : (us 64 (dl 64 18 z)).length = 18 := by rw [us_len, dl_len]
  simp only [part, e, natv]
  rw [if_pos (by omega), us_drop, dl, tb_drop, us_take, tb_take (by omega)]
  congr 3
  refine tb_congr fun j hj => ?_
  rw [M64, Nat.div_div_eq_div_mul, ← Nat.pow_add, Nat.mul_add]
theorem sig_put1 {r : Nat} (hr : r < M) : splice (us 64 (dl 64 18 0)) 0 (us 64 (dl 64 9 r)) = us 64 (dl 64 18 r) := by
  have e : ∀ (l cs : List V) (o : Nat), cs.length = 9 → splice l o cs = l.take o ++ cs ++ l.drop (o + 9) := by
    intro l cs o h
    unfold splice
    split
    · simp at h
    · rw [h]
  rw [e _ _ _ (by rw [us_len, dl_len]), List.take_zero, List.nil_append, us_drop, us_app]
  congr 1
  rw [dl, dl, dl, tb_drop]
  apply List.ext_getElem
  · simp [tb]
  · intro i h1 h2
    have hi : i < 18 := by simpa [tb] using h2
    simp only [tb, List.getElem_map, List.getElem_range]
    by_cases h : i < 9
    · rw [List.getElem_append_left (by simpa using h)]
      simp
    · rw [List.getElem_append_right (by simp; omega)]
      simp only [List.getElem_map, List.getElem_range, Nat.zero_div, Nat.zero_mod]
      exact (word_zero (M64 ▸ hr) (by omega)).symm
theorem sig_put2 {r t : Nat} (hr : r < M) : splice (us 64 (dl 64 18 r)) 9 (us 64 (dl 64 9 t)) = us 64 (dl 64 18 (r + M * t)) := by
  have e : ∀ (l cs : List V) (o : Nat), cs.length = 9 → splice l o cs = l.take o ++ cs ++ l.drop (o + 9) := by
    intro l cs o h
    unfold splice
    split
    · simp at h
    · rw [h]
  have e9 : M = 2 ^ (64 * 9) := M64
  have hM0 : 0 < M := Nat.two_pow_pos _
  rw [e _ _ _ (by rw [us_len, dl_len]), us_drop, us_take, us_app, us_app]
  congr 1
  rw [dl, dl, dl, tb_drop, tb_take (by omega)]
  apply List.ext_getElem
  · simp [tb]
  · intro i h1 h2
    have hi : i < 18 := by simpa [tb] using h2
    have h0 : (tb (18 - (9 + 9)) fun j => r / 2 ^ (64 * (9 + 9 + j)) % 2 ^ 64) = [] := rfl
    simp only [h0, List.append_nil]
    simp only [tb, List.getElem_map, List.getElem_range]
    by_cases h : i < 9
    · rw [List.getElem_append_left (by simpa using h)]
      simp only [List.getElem_map, List.getElem_range]
      have e2 : M = 2 ^ (64 * i) * (2 ^ 64 * 2 ^ (64 * (8 - i))) := by rw [M64, ← Nat.pow_add, ← Nat.pow_add]; congr 1; omega
      rw [e2, Nat.mul_assoc, Nat.mul_assoc, Nat.add_mul_div_left _ _ (Nat.two_pow_pos _), Nat.add_mul_mod_self_left]
    · rw [List.getElem_append_right (by simp; omega)]
      simp only [List.getElem_map, List.getElem_range, List.length_map, List.length_range]
      have e2 : 64 * i = 64 * 9 + 64 * (i - 9) := by omega
      conv => rhs; rw [e2, Nat.pow_add, ← Nat.div_div_eq_div_mul, ← e9, Nat.add_mul_div_left r t hM0, Nat.div_eq_of_lt hr, Nat.zero_add]

end Mir
