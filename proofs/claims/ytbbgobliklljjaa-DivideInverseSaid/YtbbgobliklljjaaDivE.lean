/- Quotient and rest of words by words. Conditions: none. -/
import Derived.Test.YtbbgobliklljjaaDivD
set_option linter.unusedVariables false
set_option linter.unusedSimpArgs false
set_option exponentiation.threshold 5000
set_option maxRecDepth 20000
namespace Mir

/-- What is left when the words from a on are divided; the window that is divided next. -/
def stN (N D a : Nat) : Nat := N % 2 ^ (64 * a) + 2 ^ (64 * a) * (N / 2 ^ (64 * a) % D)
def wvN (N D a : Nat) : Nat := N / 2 ^ (64 * (a + 1)) % D * 18446744073709551616 + N / 2 ^ (64 * a) % 2 ^ 64

theorem stN_win (N D a : Nat) : stN N D (a + 1) = N % 2 ^ (64 * a) + 2 ^ (64 * a) * wvN N D a := by
  have e : 2 ^ (64 * (a + 1)) = 2 ^ (64 * a) * 18446744073709551616 := by rw [Nat.mul_add, Nat.pow_add]
  have h : N % 2 ^ (64 * (a + 1)) = N % 2 ^ (64 * a) + 2 ^ (64 * a) * (N / 2 ^ (64 * a) % 2 ^ 64) := by rw [e, Nat.mod_mul]
  rw [stN, wvN, h]
  obtain ⟨r, hr⟩ : ∃ r, r = N / 2 ^ (64 * (a + 1)) % D := ⟨_, rfl⟩
  rw [← hr, e]
  obtain ⟨A, hA⟩ : ∃ A, A = 2 ^ (64 * a) := ⟨_, rfl⟩
  obtain ⟨u, hu⟩ : ∃ u, u = N / 2 ^ (64 * a) % 2 ^ 64 := ⟨_, rfl⟩
  rw [← hu, ← hA, Nat.mul_add, Nat.mul_assoc, Nat.mul_comm 18446744073709551616 r]
  omega
theorem wv_parts (N D a : Nat) : N / 2 ^ (64 * a) = wvN N D a + D * (N / 2 ^ (64 * (a + 1)) / D * 18446744073709551616) := by
  have h1 := two_parts N a
  have h2 := Nat.div_add_mod (N / 2 ^ (64 * (a + 1))) D
  obtain ⟨n1, hn⟩ : ∃ z, z = N / 2 ^ (64 * (a + 1)) := ⟨_, rfl⟩
  rw [← hn] at h1 h2
  rw [wvN, ← hn, ← Nat.mul_assoc]
  obtain ⟨u, hu⟩ : ∃ u, u = N / 2 ^ (64 * a) % 2 ^ 64 := ⟨_, rfl⟩
  obtain ⟨z, hz⟩ : ∃ z, z = N / 2 ^ (64 * a) := ⟨_, rfl⟩
  rw [← hz] at h1 hu ⊢
  rw [← hu] at h1 ⊢
  obtain ⟨B, hB⟩ : ∃ B, B = 18446744073709551616 := ⟨_, rfl⟩
  rw [← hB] at h1 ⊢
  have h3 : n1 * B = (D * (n1 / D) + n1 % D) * B := by rw [h2]
  rw [Nat.add_mul] at h3
  omega
theorem wv_mod {N D a : Nat} : wvN N D a % D = N / 2 ^ (64 * a) % D := by
  rw [wv_parts N D a, Nat.add_mul_mod_self_left]
theorem wv_lt {N D a : Nat} (hD : 0 < D) : wvN N D a < D * 2 ^ 64 := by
  have h1 := Nat.mod_lt (N / 2 ^ (64 * (a + 1))) hD
  have h2 : N / 2 ^ (64 * a) % 2 ^ 64 < 2 ^ 64 := Nat.mod_lt _ (Nat.two_pow_pos 64)
  rw [wvN]
  omega
theorem wv_div {N D a : Nat} (hD : 0 < D) : wvN N D a / D = N / D / 2 ^ (64 * a) % 2 ^ 64 := by
  have h1 : wvN N D a / D < 2 ^ 64 := by rw [Nat.div_lt_iff_lt_mul hD, Nat.mul_comm]; exact wv_lt hD
  rw [Nat.div_div_eq_div_mul, Nat.mul_comm D, ← Nat.div_div_eq_div_mul, wv_parts N D a, Nat.add_mul_div_left _ _ hD]
  obtain ⟨u, hu⟩ : ∃ u, u = wvN N D a / D := ⟨_, rfl⟩
  obtain ⟨v, hv⟩ : ∃ v, v = N / 2 ^ (64 * (a + 1)) / D := ⟨_, rfl⟩
  rw [← hu] at h1 ⊢
  rw [← hv]
  omega
theorem stN_next {N D a : Nat} : stN N D a = N % 2 ^ (64 * a) + 2 ^ (64 * a) * (wvN N D a % D) := by rw [stN, wv_mod]
theorem stN_zero (N D : Nat) : stN N D 0 = N % D := by simp [stN, Nat.mod_one]
theorem stN_top {N D a : Nat} (h : N / 2 ^ (64 * a) < D) : stN N D a = N := by
  rw [stN, Nat.mod_eq_of_lt h, Nat.add_comm]; exact Nat.div_add_mod N _
/-- The top of a number of L words, shifted, is below a divisor of n words. -/
theorem top_small {W s L n D a : Nat} (hW : W < 2 ^ (64 * L)) (hs : s < 64) (hn : 1 ≤ n) (hD2 : 2 ^ 63 ≤ D / 2 ^ (64 * (n - 1))) (ha : L ≤ n - 1 + a) : W * 2 ^ s / 2 ^ (64 * a) < D := by
  have h1 : 2 ^ 63 * 2 ^ (64 * (n - 1)) ≤ D := (Nat.le_div_iff_mul_le (Nat.two_pow_pos _)).1 hD2
  refine Nat.lt_of_lt_of_le ?_ h1
  rw [Nat.div_lt_iff_lt_mul (Nat.two_pow_pos _), ← Nat.pow_add, ← Nat.pow_add]
  refine Nat.lt_of_lt_of_le (Nat.mul_lt_mul_of_pos_right hW (Nat.two_pow_pos s)) ?_
  rw [← Nat.pow_add]
  exact Nat.pow_le_pow_right (by omega) (by omega)

/-- What is given back, step by step. -/
theorem back_step {Wv D x t P i c : Nat} (ht : t = Wv / D) (hD : 0 < D) (hc : c = x - t) (hx : t ≤ x) (hP : x * D ≤ P) (hi : i < c) :
    decide (P ≤ (P + Wv - (x - i) * D) + D) = !decide (i + 1 < c) ∧ ((P + Wv - (x - i) * D) + D) % P = (if i + 1 < c then P + Wv - (x - (i + 1)) * D else Wv % D) ∧ P + Wv - (x - i) * D < P := by
  have h1 : (x - i) * D = (x - (i + 1)) * D + D := by
    have : x - i = x - (i + 1) + 1 := by omega
    rw [this, Nat.add_mul, Nat.one_mul]
  have h2 : (x - i) * D ≤ x * D := Nat.mul_le_mul_right _ (by omega)
  have h3 : Wv < (t + 1) * D := by rw [ht, Nat.mul_comm]; exact Nat.lt_mul_div_succ Wv hD
  have h4 : (t + 1) * D ≤ (x - i) * D := Nat.mul_le_mul_right _ (by omega)
  obtain ⟨y, hy⟩ : ∃ y, y = (x - (i + 1)) * D := ⟨_, rfl⟩
  rw [← hy] at h1
  rw [← hy]
  by_cases h : i + 1 < c
  · have h5 : (t + 1) * D ≤ y := by rw [hy]; exact Nat.mul_le_mul_right _ (by omega)
    rw [decide_eq_true h, if_pos h, decide_eq_false (by omega)]
    refine ⟨rfl, ?_, by omega⟩
    rw [Nat.mod_eq_of_lt (by omega)]
    omega
  · have h5 : y = t * D := by rw [hy]; congr 1; omega
    have h6 : t * D ≤ Wv := by rw [ht]; exact Nat.div_mul_le_self _ _
    rw [decide_eq_false h, if_neg h, decide_eq_true (by omega)]
    refine ⟨rfl, ?_, by omega⟩
    have h7 : P + Wv - (x - i) * D + D = P + (Wv - t * D) := by omega
    have h8 : Wv - t * D = Wv % D := by
      have := Nat.div_add_mod Wv D
      rw [← ht, Nat.mul_comm] at this
      omega
    rw [h7, h8, Nat.add_mod_left, Nat.mod_eq_of_lt]
    have := Nat.mod_lt Wv hD
    omega
theorem take_first {Wv D x t P c : Nat} (ht : t = Wv / D) (hD : 0 < D) (hc : c = x - t) (hx : t ≤ x) (hP : x * D ≤ P) (hW : Wv < P) :
    decide (Wv < x * D) = decide (0 < c) ∧ (Wv + P - x * D) % P = (if 0 < c then P + Wv - (x - 0) * D else Wv % D) := by
  have h3 : Wv < (t + 1) * D := by rw [ht, Nat.mul_comm]; exact Nat.lt_mul_div_succ Wv hD
  have h6 : t * D ≤ Wv := by rw [ht]; exact Nat.div_mul_le_self _ _
  by_cases h : 0 < c
  · have h5 : (t + 1) * D ≤ x * D := Nat.mul_le_mul_right _ (by omega)
    rw [decide_eq_true h, if_pos h, decide_eq_true (by omega), Nat.sub_zero]
    exact ⟨rfl, by rw [Nat.mod_eq_of_lt (by omega)]; omega⟩
  · have h5 : x = t := by omega
    have h8 : Wv - t * D = Wv % D := by
      have := Nat.div_add_mod Wv D
      rw [← ht, Nat.mul_comm] at this
      omega
    rw [decide_eq_false h, if_neg h, h5, decide_eq_false (by omega)]
    refine ⟨rfl, ?_⟩
    rw [show Wv + P - t * D = P + (Wv - t * D) by omega, h8, Nat.add_mod_left, Nat.mod_eq_of_lt]
    have := Nat.mod_le Wv D
    omega

end Mir
