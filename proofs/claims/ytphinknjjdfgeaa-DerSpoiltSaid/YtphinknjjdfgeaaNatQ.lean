/- Comparisons of numbers as the machine makes them. Conditions: none. -/
import Derived.Test.YtphinknjjdfgeaaNatL
set_option linter.unusedVariables false
set_option linter.unusedSimpArgs false
set_option exponentiation.threshold 5000
set_option maxRecDepth 20000
namespace Mir

theorem eqL_us (w : Nat) : ∀ (n : Nat) (l m : List Nat), l.length = n → m.length = n → eqL (List.replicate n (.u w)) (us w l) (us w m) = some (decide (l = m))
  | 0, [], [], _, _ => rfl
  | n + 1, a :: l, c :: m, h1, h2 => by
    have ih := eqL_us w n l m (by simpa using h1) (by simpa using h2)
    show (match eqC (.u w) (.u w a) (.u w c), eqL (List.replicate n (.u w)) (us w l) (us w m) with
      | some x, some y => some (x && y)
      | _, _ => none) = _
    rw [ih]
    simp only [eqC, and_self, if_true]
    congr 1
    by_cases h : a = c <;> by_cases h' : l = m <;> simp [h, h']

theorem eq9 {x y : Nat} (hx : x < M) (hy : y < M) : eqV (.agg [.u 64, .u 64, .u 64, .u 64, .u 64, .u 64, .u 64, .u 64, .u 64]) (.agg (us 64 (dl 64 9 x))) (.agg (us 64 (dl 64 9 y))) = some (decide (x = y)) := by
  have h := eqL_us 64 9 (dl 64 9 x) (dl 64 9 y) (dl_len ..) (dl_len ..)
  show eqL (List.replicate 9 (.u 64)) _ _ = _
  rw [h]
  congr 1
  by_cases h1 : x = y
  · subst h1; simp
  · have : dl 64 9 x ≠ dl 64 9 y := fun e => h1 (dl_inj e (M64 ▸ hx) (M64 ▸ hy))
    simp [h1, this]

theorem and_int (z : Int) {k : Nat} (hk : k < 9223372036854775808) : ∃ c : Nat, c ≤ k ∧ binV .and (.i z) (.i (k : Int)) = some (.i (c : Int)) := by
  show ∃ c : Nat, c ≤ k ∧ (if 0 ≤ z ∧ 0 ≤ (k : Int) then some (V.i ((z.toNat &&& (k : Int).toNat : Nat) : Int)) else _) = _
  by_cases h : 0 ≤ z
  · refine ⟨z.toNat &&& k, Nat.and_le_right, ?_⟩
    rw [if_pos ⟨h, by omega⟩]
    simp
  · refine ⟨(z % 18446744073709551616).toNat &&& k, Nat.and_le_right, ?_⟩
    rw [if_neg (fun hh => h hh.1)]
    have h1 : ((k : Int) % 18446744073709551616).toNat = k := by omega
    have h2 : (z % 18446744073709551616).toNat &&& k ≤ k := Nat.and_le_right
    rw [h1, w64_of (by omega) (by omega)]

theorem eq9s (x : Nat) : eqV (.agg [.u 64, .u 64, .u 64, .u 64, .u 64, .u 64, .u 64, .u 64, .u 64]) (.agg (us 64 (dl 64 9 x))) (.agg (us 64 (dl 64 9 x))) = some true := by
  have h := eqL_us 64 9 (dl 64 9 x) (dl 64 9 x) (dl_len ..) (dl_len ..)
  show eqL (List.replicate 9 (.u 64)) _ _ = _
  rw [h]; simp
theorem eq18s (x : Nat) : eqV (.agg [.u 64, .u 64, .u 64, .u 64, .u 64, .u 64, .u 64, .u 64, .u 64, .u 64, .u 64, .u 64, .u 64, .u 64, .u 64, .u 64, .u 64, .u 64]) (.agg (us 64 (dl 64 18 x))) (.agg (us 64 (dl 64 18 x))) = some true := by
  have h := eqL_us 64 18 (dl 64 18 x) (dl 64 18 x) (dl_len ..) (dl_len ..)
  show eqL (List.replicate 18 (.u 64)) _ _ = _
  rw [h]; simp
theorem eqb (x y : Bool) : eqV .bool (.b x) (.b y) = some (x == y) := Eq.trans rfl rfl
theorem eqbs (x : Bool) : eqV .bool (.b x) (.b x) = some true := by rw [eqb]; simp
theorem eqis (x : Int) : decide (x = x) = true := by simp

end Mir
