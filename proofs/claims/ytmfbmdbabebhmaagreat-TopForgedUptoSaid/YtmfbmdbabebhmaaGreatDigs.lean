/- Numbers as lists of digits; lists given by a function of the place. Plain facts. Conditions: none. -/
import Derived.Test.YtmfbmdbabebhmaaGreatLib
set_option linter.unusedVariables false
set_option linter.unusedSimpArgs false
set_option exponentiation.threshold 5000
namespace Mir

/- ## Lists given by a function of the place -/

def tb {α : Type} (n : Nat) (f : Nat → α) : List α := (List.range n).map f

theorem tb_len {α : Type} (n : Nat) (f : Nat → α) : (tb n f).length = n := by simp [tb]
theorem tb_get {α : Type} {n : Nat} {f : Nat → α} {k : Nat} (h : k < n) : (tb n f)[k]? = some (f k) := by simp [tb, h]
theorem tb_getD {n : Nat} {f : Nat → Nat} {k : Nat} : (tb n f).getD k 0 = if k < n then f k else 0 := by
  by_cases h : k < n
  · simp [tb, h]
  · simp [tb, h, Nat.not_lt.1 h]
theorem tb_set {α : Type} (n : Nat) (f : Nat → α) (k : Nat) (y : α) : (tb n f).set k y = tb n (fun j => if j = k then y else f j) := by
  apply List.ext_getElem
  · simp [tb]
  · intro i h1 h2
    simp only [tb, List.getElem_set, List.getElem_map, List.getElem_range]
    by_cases h : k = i
    · subst h; simp
    · simp [h, Ne.symm h]
theorem tb_congr {α : Type} {n : Nat} {f g : Nat → α} (h : ∀ j, j < n → f j = g j) : tb n f = tb n g := by
  apply List.map_congr_left
  intro j hj
  exact h j (by simpa using hj)
theorem tb_of {l : List Nat} {n : Nat} (h : l.length = n) : l = tb n (fun j => l.getD j 0) := by
  subst h
  apply List.ext_getElem
  · simp [tb]
  · intro i h1 h2
    simp [tb, h1]
theorem tb_succ {α : Type} (n : Nat) (f : Nat → α) : tb (n + 1) f = f 0 :: tb n (fun j => f (j + 1)) := by
  simp only [tb, List.range_succ_eq_map, List.map_cons, List.map_map]
  rfl
theorem tb_snoc {α : Type} (n : Nat) (f : Nat → α) : tb (n + 1) f = tb n f ++ [f n] := by simp [tb, List.range_succ]
theorem tb_take {α : Type} {n k : Nat} (h : k ≤ n) (f : Nat → α) : (tb n f).take k = tb k f := by
  apply List.ext_getElem
  · simp [tb]; omega
  · intro i h1 h2; simp [tb]
theorem tb_drop {α : Type} {n k : Nat} (f : Nat → α) : (tb n f).drop k = tb (n - k) (fun j => f (k + j)) := by
  apply List.ext_getElem
  · simp [tb]
  · intro i h1 h2; simp [tb]

/- ## Digits -/

/-- The digits of w bits, so many. -/
def dl (w n x : Nat) : List Nat := tb n (fun j => x / 2 ^ (w * j) % 2 ^ w)

theorem dl_len (w n x : Nat) : (dl w n x).length = n := tb_len _ _
theorem dl_get {w n x k : Nat} (h : k < n) : (dl w n x)[k]? = some (x / 2 ^ (w * k) % 2 ^ w) := tb_get h
/-- A list of digits as a number. -/
def vl (w : Nat) : List Nat → Nat
  | [] => 0
  | x :: l => x + 2 ^ w * vl w l

theorem vl_dl (w : Nat) : ∀ (n x : Nat), vl w (dl w n x) = x % 2 ^ (w * n)
  | 0, x => by simp [dl, tb, vl, Nat.mod_one]
  | n + 1, x => by
    have ih := vl_dl w n (x / 2 ^ w)
    have e : dl w (n + 1) x = x % 2 ^ w :: dl w n (x / 2 ^ w) := by
      simp only [dl, tb_succ, Nat.mul_zero, Nat.pow_zero, Nat.div_one]
      congr 1
      exact tb_congr fun j _ => by rw [Nat.div_div_eq_div_mul, ← Nat.pow_add, Nat.mul_succ, Nat.add_comm]
    rw [e, vl, ih, Nat.mul_succ, Nat.add_comm (w * n), Nat.pow_add, Nat.mod_mul]

theorem dl_mod (w n x : Nat) : dl w n (x % 2 ^ (w * n)) = dl w n x := by
  refine tb_congr fun j hj => ?_
  have : w * n = w * j + (w + w * (n - j - 1)) := by
    have : n = j + 1 + (n - j - 1) := by omega
    conv => lhs; rw [this, Nat.mul_add, Nat.mul_add]
    omega
  rw [this, Nat.pow_add, Nat.mod_mul_right_div_self, Nat.pow_add, Nat.mod_mul_right_mod]

theorem dl_inj {w n x y : Nat} (h : dl w n x = dl w n y) (hx : x < 2 ^ (w * n)) (hy : y < 2 ^ (w * n)) : x = y := by
  have := congrArg (vl w) h
  rwa [vl_dl, vl_dl, Nat.mod_eq_of_lt hx, Nat.mod_eq_of_lt hy] at this

/- ## Digits without noughts at the end -/

/-- How long a list is without noughts at its end. -/
def tl : List Nat → Nat
  | [] => 0
  | x :: l => if tl l = 0 ∧ x = 0 then 0 else tl l + 1

theorem tl_le : ∀ l, tl l ≤ l.length
  | [] => Nat.le_refl _
  | x :: l => by
    have := tl_le l
    simp only [tl, List.length_cons]
    split <;> omega

theorem tl_zero : ∀ (l : List Nat) (k : Nat), tl l ≤ k → l.getD k 0 = 0
  | [], k, _ => by simp
  | x :: l, k, h => by
    simp only [tl] at h
    cases k with
    | zero =>
      split at h
      · rename_i hx; simp [hx.2]
      · omega
    | succ k =>
      have : tl l ≤ k := by
        split at h <;> omega
      simpa using tl_zero l k this

theorem tl_pos : ∀ (l : List Nat), 0 < tl l → l.getD (tl l - 1) 0 ≠ 0
  | [], h => by simp [tl] at h
  | x :: l, h => by
    simp only [tl] at h ⊢
    split at h
    · omega
    · rename_i hx
      rw [if_neg hx]
      rcases Nat.eq_zero_or_pos (tl l) with h0 | h0
      · have : x ≠ 0 := fun e => hx ⟨h0, e⟩
        simpa [h0] using this
      · have := tl_pos l h0
        have e : tl l + 1 - 1 = tl l - 1 + 1 := by omega
        rw [e]
        simpa using this

def dgF : Nat → Nat → List Nat
  | 0, _ => []
  | n + 1, x => if x = 0 then [] else x % 4294967296 :: dgF n (x / 4294967296)

/-- A number's digits of 32 bits, without noughts at the end. -/
def dg (x : Nat) : List Nat := dgF x x

theorem and32 (y : Nat) : y &&& 4294967295 = y % 4294967296 := Nat.and_two_pow_sub_one_eq_mod y 32
theorem dl_part {x i : Nat} (h : i < 9) : part (us 64 (dl 64 9 x)) i none = some (.u 64 (x / 2 ^ (64 * i) % 2 ^ 64)) := by
  simp only [part, us_get (dl_get h)]

/-- One more than the greatest number of nine words. -/
def M : Nat := 2 ^ 576
theorem M64 : M = 2 ^ (64 * 9) := rfl

/- ## How many bits -/

def bl (x : Nat) : Nat := if x = 0 then 0 else x.log2 + 1

theorem bl_zero : bl 0 = 0 := rfl
theorem bl_lt (x : Nat) : x < 2 ^ bl x := by
  unfold bl
  by_cases h : x = 0
  · subst h; simp
  · rw [if_neg h]; exact Nat.lt_log2_self
theorem bl_le {x : Nat} (h : x ≠ 0) : 2 ^ (bl x - 1) ≤ x := by
  unfold bl
  rw [if_neg h]
  exact Nat.log2_self_le h
theorem bl_pos {x : Nat} (h : x ≠ 0) : 0 < bl x := by
  unfold bl; rw [if_neg h]; omega
theorem bl_le_iff {x k : Nat} : bl x ≤ k ↔ x < 2 ^ k := by
  constructor
  · intro h
    exact Nat.lt_of_lt_of_le (bl_lt x) (Nat.pow_le_pow_right (by omega) h)
  · intro h
    rcases Nat.lt_or_ge k (bl x) with h1 | h1
    · by_cases h0 : x = 0
      · subst h0; simp [bl_zero]
      · have h2 := bl_le h0
        have h3 : 2 ^ k ≤ 2 ^ (bl x - 1) := Nat.pow_le_pow_right (by omega) (by omega)
        omega
    · exact h1
theorem bl_eq {x k : Nat} (h1 : 2 ^ k ≤ x) (h2 : x < 2 ^ (k + 1)) : bl x = k + 1 := by
  have h3 := bl_le_iff.2 h2
  have h4 : ¬ bl x ≤ k := fun h => by have := bl_le_iff.1 h; omega
  omega
theorem bl_div {x k : Nat} (h : x / 2 ^ k ≠ 0) : bl x = bl (x / 2 ^ k) + k := by
  have h1 := bl_le h
  have h2 := bl_lt (x / 2 ^ k)
  have h3 := bl_pos h
  have e : bl (x / 2 ^ k) + k = (bl (x / 2 ^ k) - 1 + k) + 1 := by omega
  rw [e]
  apply bl_eq
  · rw [Nat.pow_add]
    exact (Nat.le_div_iff_mul_le (Nat.two_pow_pos k)).1 h1
  · have e2 : bl (x / 2 ^ k) - 1 + k + 1 = bl (x / 2 ^ k) + k := by omega
    rw [e2, Nat.pow_add]
    exact (Nat.div_lt_iff_lt_mul (Nat.two_pow_pos k)).1 h2
theorem carry_lo (w a b i : Nat) : (a / 2 ^ (w * i) % 2 ^ w + b / 2 ^ (w * i) % 2 ^ w + (a % 2 ^ (w * i) + b % 2 ^ (w * i)) / 2 ^ (w * i)) % 2 ^ w = (a + b) / 2 ^ (w * i) % 2 ^ w := by
  have hB := Nat.two_pow_pos (w * i)
  generalize 2 ^ (w * i) = B at hB
  have h : (a + b) / B = a / B + b / B + (a % B + b % B) / B := by
    conv => lhs; rw [← Nat.div_add_mod a B, ← Nat.div_add_mod b B]
    have : B * (a / B) + a % B + (B * (b / B) + b % B) = (a % B + b % B) + B * (a / B + b / B) := by
      rw [Nat.mul_add]; omega
    rw [this, Nat.add_mul_div_left _ _ hB]
    omega
  rw [h]
  generalize (a % B + b % B) / B = c
  generalize a / B = p
  generalize b / B = q
  generalize 2 ^ w = W
  rw [Nat.add_mod (p % W + q % W), Nat.add_mod (p % W), Nat.mod_mod, Nat.mod_mod, ← Nat.add_mod p q, ← Nat.add_mod]

theorem carry_hi (w a b i : Nat) : (a / 2 ^ (w * i) % 2 ^ w + b / 2 ^ (w * i) % 2 ^ w + (a % 2 ^ (w * i) + b % 2 ^ (w * i)) / 2 ^ (w * i)) / 2 ^ w =
    (a % 2 ^ (w * (i + 1)) + b % 2 ^ (w * (i + 1))) / 2 ^ (w * (i + 1)) := by
  have hB := Nat.two_pow_pos (w * i)
  rw [Nat.mul_succ, Nat.pow_add]
  generalize 2 ^ (w * i) = B at hB
  rw [Nat.mod_mul, Nat.mod_mul, ← Nat.div_div_eq_div_mul]
  congr 1
  have : a % B + B * (a / B % 2 ^ w) + (b % B + B * (b / B % 2 ^ w)) = (a % B + b % B) + B * (a / B % 2 ^ w + b / B % 2 ^ w) := by
    rw [Nat.mul_add]; omega
  rw [this, Nat.add_mul_div_left _ _ hB]
  omega

theorem carry_le (w a b i : Nat) : (a % 2 ^ (w * i) + b % 2 ^ (w * i)) / 2 ^ (w * i) ≤ 1 := by
  have hB := Nat.two_pow_pos (w * i)
  generalize 2 ^ (w * i) = B at hB
  have h1 := Nat.mod_lt a hB
  have h2 := Nat.mod_lt b hB
  have : (a % B + b % B) / B < 2 := by
    rw [Nat.div_lt_iff_lt_mul hB]; omega
  omega

end Mir
