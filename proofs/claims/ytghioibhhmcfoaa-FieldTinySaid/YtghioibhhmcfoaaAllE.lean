/- One module of several texts (DivJ DivK DivM DivL DivN DivO DivP DivQ DivR RefO). Conditions: none. -/
import Derived.Test.YtghioibhhmcfoaaAllD
import Derived.Test.YtghioibhhmcfoaaAllR
import Derived.Test.YtghioibhhmcfoaaSig
set_option linter.unusedVariables false
set_option linter.unusedSimpArgs false
set_option exponentiation.threshold 5000
set_option maxRecDepth 20000
namespace Mir

theorem est32d {U u y y1 y0 t B : Nat} (hB : B = 4294967296) (hy : y = y1 * B + y0) (hy0 : y0 < B) (hy1 : 2147483648 ≤ y1) (hy1l : y1 < B) (hU : U ≤ y) (hu : u < B) (ht : t < B) (hty : t * y ≤ U * B + u) :
    ∃ (q r : Nat → Nat) (K : Nat), (∀ i, q i = U / y1 - i) ∧ (∀ i, r i = U % y1 + i * y1) ∧ K ≤ 1 ∧ U / y1 < B + 2 ∧
      (∀ i, i < K → r (i + 1) < B ∧ 1 ≤ q i ∧ (B ≤ q i ∨ (q i < B ∧ B * r i + u < q i * y0))) ∧
      ((q K < B ∧ q K * y0 ≤ B * r K + u ∧ t ≤ q K ∧ q K * y ≤ U * B + u) ∨
       (B ≤ r (K + 1) ∧ 1 ≤ q K ∧ (B ≤ q K ∨ (q K < B ∧ B * r K + u < q K * y0)) ∧ t ≤ q (K + 1) ∧ q (K + 1) < B ∧ q (K + 1) * y ≤ U * B + u)) ∧
      (∀ i, i ≤ K → r i < B) := by
  have hy1p : 0 < y1 := by omega
  have hdm := Nat.div_add_mod U y1
  have hml := Nat.mod_lt U hy1p
  have q0l : U / y1 < B + 2 := by
    rw [Nat.div_lt_iff_lt_mul hy1p, Nat.add_mul, Nat.mul_comm B y1]
    omega
  obtain ⟨q0, hq0⟩ : ∃ q0, q0 = U / y1 := ⟨_, rfl⟩
  obtain ⟨r0, hr0⟩ : ∃ r0, r0 = U % y1 := ⟨_, rfl⟩
  rw [← hq0, ← hr0] at hdm
  rw [← hr0] at hml
  rw [← hq0] at q0l
  have worth : ∀ k, k ≤ q0 → (q0 - k) * y1 + (r0 + k * y1) = U := fun k hk => by
    have : (q0 - k) * y1 + k * y1 = q0 * y1 := by rw [← Nat.add_mul]; congr 1; omega
    rw [Nat.mul_comm y1 q0] at hdm
    omega
  have cmp : ∀ k, k ≤ q0 → ((q0 - k) * y ≤ U * B + u ↔ (q0 - k) * y0 ≤ B * (r0 + k * y1) + u) := fun k hk => by
    have h1 := worth k hk
    obtain ⟨g, hg⟩ : ∃ g, g = q0 - k := ⟨_, rfl⟩
    obtain ⟨r, hr⟩ : ∃ r, r = r0 + k * y1 := ⟨_, rfl⟩
    rw [← hg, ← hr] at h1 ⊢
    have h2 : g * y = g * y1 * B + g * y0 := by rw [hy, Nat.mul_add, Nat.mul_assoc]
    rw [h2, ← h1, Nat.add_mul, Nat.mul_comm r B]
    omega
  have ge_t : t ≤ q0 := by
    rw [hq0, Nat.le_div_iff_mul_le hy1p]
    have h1 : t * y = t * y1 * B + t * y0 := by rw [hy, Nat.mul_add, Nat.mul_assoc]
    rw [h1] at hty
    rcases Nat.lt_or_ge U (t * y1) with h | h
    · have h3 : (U + 1) * B ≤ t * y1 * B := Nat.mul_le_mul_right _ h
      rw [Nat.add_mul, Nat.one_mul] at h3
      omega
    · exact h
  have le1 : ∀ k, k ≤ q0 → (B ≤ q0 - k ∨ (q0 - k < B ∧ B * (r0 + k * y1) + u < (q0 - k) * y0)) → t ≤ q0 - (k + 1) ∧ 1 ≤ q0 - k := fun k hk h => by
    rcases h with h | ⟨h1, h2⟩
    · omega
    · rcases Nat.lt_or_ge t (q0 - k) with h3 | h3
      · omega
      · have h4 : (q0 - k) * y ≤ U * B + u := Nat.le_trans (Nat.mul_le_mul_right _ h3) hty
        exact absurd ((cmp k hk).1 h4) (by omega)
  have brk : ∀ k, k ≤ q0 → B ≤ r0 + k * y1 → q0 - k < B ∧ (q0 - k) * y ≤ U * B + u := fun k hk h => by
    have h1 := worth k hk
    have h2 : q0 - k < B := by
      rcases Nat.lt_or_ge (q0 - k) B with h3 | h3
      · exact h3
      · have h4 : B * y1 ≤ (q0 - k) * y1 := Nat.mul_le_mul_right _ h3
        rw [Nat.mul_comm B y1] at h4
        omega
    refine ⟨h2, (cmp k hk).2 ?_⟩
    have h3 : (q0 - k) * y0 ≤ B * y0 := Nat.mul_le_mul_right _ (Nat.le_of_lt h2)
    have h4 : B * y0 ≤ B * (r0 + k * y1) := Nat.mul_le_mul_left _ (by omega)
    omega
  have dec : ∀ k, (B ≤ q0 - k ∨ (q0 - k < B ∧ B * (r0 + k * y1) + u < (q0 - k) * y0)) ∨ (q0 - k < B ∧ (q0 - k) * y0 ≤ B * (r0 + k * y1) + u) := fun k => by omega
  rw [← hq0, ← hr0]
  refine ⟨fun i => q0 - i, fun i => r0 + i * y1, ?_⟩
  rcases dec 0 with c0 | ⟨c0, c0'⟩
  · obtain ⟨g1, g2⟩ := le1 0 (by omega) c0
    by_cases c1 : B ≤ r0 + 1 * y1
    · obtain ⟨b1, b2⟩ := brk 1 (by omega) c1
      refine ⟨0, fun _ => rfl, fun _ => rfl, by omega, q0l, fun i hi => absurd hi (by omega), .inr ⟨c1, g2, c0, g1, b1, b2⟩, fun i hi => ?_⟩
      have : i = 0 := by omega
      subst this
      simp
      omega
    · have rl : ∀ i, i ≤ 1 → r0 + i * y1 < B := fun i hi => by
        rcases (show i = 0 ∨ i = 1 by omega) with h | h <;> subst h <;> omega
      have first : ∀ i, i < 1 → r0 + (i + 1) * y1 < B ∧ 1 ≤ q0 - i ∧ (B ≤ q0 - i ∨ (q0 - i < B ∧ B * (r0 + i * y1) + u < (q0 - i) * y0)) := fun i hi => by
        have : i = 0 := by omega
        subst this
        exact ⟨rl 1 (by omega), g2, c0⟩
      rcases dec 1 with c2 | ⟨c2, c2'⟩
      · obtain ⟨g3, g4⟩ := le1 1 (by omega) c2
        have c3 : B ≤ r0 + 2 * y1 := by omega
        obtain ⟨b1, b2⟩ := brk 2 (by omega) c3
        exact ⟨1, fun _ => rfl, fun _ => rfl, by omega, q0l, first, .inr ⟨c3, g4, c2, g3, b1, b2⟩, rl⟩
      · exact ⟨1, fun _ => rfl, fun _ => rfl, by omega, q0l, first, .inl ⟨c2, c2', g1, (cmp 1 (by omega)).2 c2'⟩, rl⟩
  · refine ⟨0, fun _ => rfl, fun _ => rfl, by omega, q0l, fun i hi => absurd hi (by omega), .inl ⟨c0, c0', by simpa using ge_t, (cmp 0 (by omega)).2 c0'⟩, fun i hi => ?_⟩
    have : i = 0 := by omega
    subst this
    simp
    omega

/-- A guess by three digits is too great by one at most. -/
theorem guess_one {q W V P y N : Nat} (hP : 0 < P) (hN : N = W / P) (hy : y = V / P) (hq : q * y ≤ N) (hqy : q ≤ y) : (q - 1) * V ≤ W := by
  rcases Nat.eq_zero_or_pos q with h0 | h0
  · rw [h0]; simp
  · have h1 : V < (y + 1) * P := by rw [hy, Nat.mul_comm]; exact Nat.lt_mul_div_succ V hP
    have h2 : N * P ≤ W := by rw [hN]; exact Nat.div_mul_le_self _ _
    have h3 : q * V ≤ q * ((y + 1) * P) := Nat.mul_le_mul_left _ (Nat.le_of_lt h1)
    have h4 : q * ((y + 1) * P) = q * y * P + q * P := by rw [← Nat.mul_assoc, Nat.mul_add, Nat.mul_one, Nat.add_mul]
    have h5 : q * y * P ≤ N * P := Nat.mul_le_mul_right _ hq
    have h6 : q * P ≤ V := by
      refine Nat.le_trans (Nat.mul_le_mul_right _ hqy) ?_
      rw [hy]; exact Nat.div_mul_le_self _ _
    have h7 : q * V = (q - 1) * V + V := by
      have : q = q - 1 + 1 := by omega
      rw [this, Nat.add_mul, Nat.one_mul]; simp
    omega

end Mir

namespace Mir

/-- A digit taken away, by words of 64 bits. -/
theorem dsub_word {x e b : Nat} (hx : x < 2 ^ 32) (he : e < 2 ^ 32) (hb : b ≤ 1) :
    (x + 4294967296) % 2 ^ 64 = x + 4294967296 ∧ (x + 4294967296 + 2 ^ 64 - e) % 2 ^ 64 = x + 4294967296 - e ∧ (x + 4294967296 - e + 2 ^ 64 - b) % 2 ^ 64 = x + 2 ^ 32 - e - b ∧
    (1 + 2 ^ 64 - (x + 2 ^ 32 - e - b) / 2 ^ 32) % 2 ^ 64 = (if x < e + b then 1 else 0) ∧ ((x + 2 ^ 32 - e - b) / 2 ^ 32 = 1 ↔ ¬ (x < e + b)) := by
  refine ⟨by omega, by omega, by omega, ?_, by omega⟩
  split <;> omega

theorem two_parts32 (X k : Nat) : X / 2 ^ (32 * k) = X / 2 ^ (32 * (k + 1)) * 4294967296 + X / 2 ^ (32 * k) % 2 ^ 32 := by
  have h := Nat.div_add_mod (X / 2 ^ (32 * k)) (2 ^ 32)
  rw [Nat.div_div_eq_div_mul, ← Nat.pow_add, show 32 * k + 32 = 32 * (k + 1) by omega] at h
  omega
theorem window32 {lo Wv a j : Nat} (hlo : lo < 2 ^ (32 * a)) (hj : a ≤ j) : (lo + 2 ^ (32 * a) * Wv) / 2 ^ (32 * j) % 2 ^ 32 = Wv / 2 ^ (32 * (j - a)) % 2 ^ 32 := by
  have e : 32 * j = 32 * a + 32 * (j - a) := by omega
  rw [e, Nat.pow_add, ← Nat.div_div_eq_div_mul, Nat.add_mul_div_left _ _ (Nat.two_pow_pos _), Nat.div_eq_of_lt hlo, Nat.zero_add]
theorem below32 {lo Wv a j : Nat} (hj : j < a) : (lo + 2 ^ (32 * a) * Wv) / 2 ^ (32 * j) % 2 ^ 32 = lo / 2 ^ (32 * j) % 2 ^ 32 := by
  have e : 2 ^ (32 * a) = 2 ^ (32 * j) * (2 ^ 32 * 2 ^ (32 * (a - j - 1))) := by rw [← Nat.pow_add, ← Nat.pow_add]; congr 1; omega
  rw [e, Nat.mul_assoc, Nat.mul_assoc, Nat.add_mul_div_left _ _ (Nat.two_pow_pos _), Nat.add_mul_mod_self_left]
/-- The product's i-th digit of 32 bits, what is carried. -/
theorem qd32 {q D i : Nat} (hq : q < 2 ^ 32) : (mC 32 q D 0 i + q * (D / 2 ^ (32 * i) % 2 ^ 32)) % 2 ^ 32 = q * D / 2 ^ (32 * i) % 2 ^ 32 ∧ (mC 32 q D 0 i + q * (D / 2 ^ (32 * i) % 2 ^ 32)) / 2 ^ 32 = mC 32 q D 0 (i + 1) := by
  have hU : mU 32 q D 0 = 0 := by simp [mU, Nat.mod_one]
  have h0 : q / 2 ^ (32 * 0) % 2 ^ 32 = q := by simp; omega
  have h1 := mT_word 32 q D 0 i
  have h2 := mC_step 32 q D 0 i
  rw [hU, h0, Nat.zero_div, Nat.zero_mod, Nat.add_zero] at h1 h2
  refine ⟨?_, h2⟩
  rw [h1, mT, hU, h0, Nat.zero_add, Nat.mul_zero, Nat.pow_zero, Nat.mul_one, Nat.zero_add]
  have h4 : 2 ^ (32 * (i + 1)) = 2 ^ (32 * i) * 2 ^ 32 := by rw [← Nat.pow_add]; congr 1
  have e : q * D = q * (D % 2 ^ (32 * (i + 1))) + 2 ^ (32 * i) * (2 ^ 32 * (q * (D / 2 ^ (32 * (i + 1))))) := by
    rw [← Nat.mul_assoc (2 ^ (32 * i)), ← h4]; exact split_mul q D _
  rw [e, Nat.add_mul_div_left _ _ (Nat.two_pow_pos _), Nat.add_mul_mod_self_left]

end Mir

namespace Mir

/-- A text without its first parts. -/
def tailN : Nat → Stm → Stm
  | 0, s => s
  | n + 1, .seq _ b => tailN n b
  | _, s => s

theorem win_stepL {L a i : Nat} (s p : Nat → Nat) : tb L (fun j => if j = a + i then s (a + i) else if a ≤ j ∧ j < a + i then s j else p j) = tb L (fun j => if a ≤ j ∧ j < a + (i + 1) then s j else p j) := tb_congr fun j hj => by
  by_cases h : j = a + i
  · rw [if_pos h, if_pos (by omega), h]
  · rw [if_neg h]
    by_cases h2 : a ≤ j ∧ j < a + i
    · rw [if_pos h2, if_pos (by omega)]
    · rw [if_neg h2, if_neg (by omega)]

theorem step_fit {q d c : Nat} (hq : q < 4294967296) (hd : d < 4294967296) (hc : c < 4294967296) : q * d % 2 ^ 64 = q * d ∧ (q * d + c) % 2 ^ 64 = q * d + c := by
  have : q * d ≤ 4294967295 * 4294967295 := Nat.mul_le_mul (by omega) (by omega)
  constructor <;> omega

/-- The numbers of the step: what is left behind the taking, behind the giving back. -/
theorem step_end {Wv V q t P : Nat} (ht : t = Wv / V) (hV : 0 < V) (h1 : t ≤ q) (h2 : (q - 1) * V ≤ Wv) (hP : q * V ≤ P) (hW : Wv < P) :
    (¬ Wv < q * V → q = t ∧ (Wv + P - q * V) % P = Wv % V) ∧ (Wv < q * V → q - 1 = t ∧ 1 ≤ q ∧ ((Wv + P - q * V) % P + V) % P = Wv % V) := by
  have h3 : Wv < (t + 1) * V := by rw [ht, Nat.mul_comm]; exact Nat.lt_mul_div_succ Wv hV
  have h6 : t * V ≤ Wv := by rw [ht]; exact Nat.div_mul_le_self _ _
  have h8 : Wv - t * V = Wv % V := by
    have := Nat.div_add_mod Wv V
    rw [← ht, Nat.mul_comm] at this
    omega
  constructor
  · intro h
    have h4 : q = t := by
      rcases Nat.lt_or_ge t q with h4 | h4
      · exact absurd (Nat.lt_of_lt_of_le h3 (Nat.mul_le_mul_right V h4)) h
      · omega
    refine ⟨h4, ?_⟩
    rw [h4, show Wv + P - t * V = P + (Wv - t * V) by omega, h8, Nat.add_mod_left, Nat.mod_eq_of_lt]
    exact Nat.lt_of_le_of_lt (Nat.mod_le _ _) hW
  · intro h
    have h0 : 1 ≤ q := by
      rcases Nat.eq_zero_or_pos q with h0 | h0
      · rw [h0] at h; omega
      · exact h0
    have h4 : q - 1 = t := by
      rcases Nat.lt_or_ge t (q - 1) with h4 | h4
      · exact absurd (Nat.lt_of_lt_of_le h3 (Nat.mul_le_mul_right V h4)) (by omega)
      · rcases Nat.lt_or_ge (q - 1) t with h5 | h5
        · have : q = t := by omega
          rw [this] at h
          omega
        · omega
    refine ⟨h4, h0, ?_⟩
    have h5 : q * V = t * V + V := by rw [show q = t + 1 by omega, Nat.add_mul, Nat.one_mul]
    rw [Nat.mod_eq_of_lt (a := Wv + P - q * V) (by omega), show Wv + P - q * V + V = P + (Wv - t * V) by omega, h8, Nat.add_mod_left, Nat.mod_eq_of_lt]
    exact Nat.lt_of_le_of_lt (Nat.mod_le _ _) hW

theorem step_tail {V lo Wv a k L q : Nat} {gl : List Nat} (hk : k = (dg V).length) (hlo : lo < 2 ^ (32 * a)) (hW : Wv < V * 2 ^ 32) (ha : a + k < L) (hL : L < 1000000000) (hV : 0 < V)
    (hq : q < 4294967296) (hq1 : Wv / V ≤ q) (hq2 : (q - 1) * V ≤ Wv) :
    Exec T (tailN 5 c_curvetref1_step) ⟨[(0, .hs 1 0 0 L L), (1, .vs k (us 32 (dg V))), (2, .i (a : Int)), (7, .i (k : Int)), (9, .u 64 q)], [some (us 32 (dl 32 L (lo + 2 ^ (32 * a) * Wv))), some (us 32 gl)]⟩ =
      some (.ret, ⟨[(6, .u 64 (Wv / V))], [some (us 32 (dl 32 L (lo + 2 ^ (32 * a) * (Wv % V)))), some (us 32 gl)]⟩) := by
  simp only [c_curvetref1_step, tailN]
  have hVl : V < 2 ^ (32 * k) := by rw [hk]; exact dg_len_lt V
  have hqV : q * V < 2 ^ (32 * (k + 1)) := by
    have : q * V < 2 ^ 32 * 2 ^ (32 * k) := Nat.mul_lt_mul'' hq hVl
    rw [← Nat.pow_add] at this
    rw [show 32 * (k + 1) = 32 + 32 * k by omega]; exact this
  have hWP : Wv < 2 ^ (32 * (k + 1)) := by
    rw [show 32 * (k + 1) = 32 * k + 32 by omega, Nat.pow_add]
    exact Nat.lt_trans hW (Nat.mul_lt_mul_of_pos_right hVl (Nat.two_pow_pos 32))
  obtain ⟨E1, E2⟩ := step_end rfl hV hq1 hq2 (Nat.le_of_lt hqV) hWP
  obtain ⟨X, hX⟩ : ∃ X, X = lo + 2 ^ (32 * a) * Wv := ⟨_, rfl⟩
  obtain ⟨Z, hZ⟩ : ∃ Z, Z = Wv + 2 ^ (32 * (k + 1)) - q * V := ⟨_, rfl⟩
  rw [← hZ] at E1 E2
  obtain ⟨P, hP⟩ : ∃ P, P = 2 ^ (32 * (k + 1)) := ⟨_, rfl⟩
  have hPp : 0 < P := by rw [hP]; exact Nat.two_pow_pos _
  have hZP : Z % P < 2 ^ (32 * (k + 1)) := by rw [← hP]; exact Nat.mod_lt _ hPp
  obtain ⟨Y, hY⟩ : ∃ Y, Y = lo + 2 ^ (32 * a) * (Z % P) := ⟨_, rfl⟩
  obtain ⟨x, hx⟩ : ∃ x : Nat → Nat, ∀ j, x j = X / 2 ^ (32 * j) % 2 ^ 32 := ⟨_, fun _ => rfl⟩
  obtain ⟨y, hy⟩ : ∃ x : Nat → Nat, ∀ j, x j = Y / 2 ^ (32 * j) % 2 ^ 32 := ⟨_, fun _ => rfl⟩
  obtain ⟨d, hd⟩ : ∃ d : Nat → Nat, ∀ i, d i = V / 2 ^ (32 * i) % 2 ^ 32 := ⟨_, fun _ => rfl⟩
  obtain ⟨c, hc⟩ : ∃ c : Nat → Nat, ∀ i, c i = mC 32 q V 0 i := ⟨_, fun _ => rfl⟩
  obtain ⟨e, he⟩ : ∃ e : Nat → Nat, ∀ i, e i = q * V / 2 ^ (32 * i) % 2 ^ 32 := ⟨_, fun _ => rfl⟩
  obtain ⟨b, hb⟩ : ∃ b : Nat → Nat, ∀ i, b i = bor 32 Wv (q * V) i := ⟨_, fun _ => rfl⟩
  have hcl : ∀ i, c i < 4294967296 := fun i => by rw [hc]; exact mC_lt 32 q V 0 i
  have hdl : ∀ i, d i < 4294967296 := fun i => by rw [hd]; exact Nat.mod_lt _ (Nat.two_pow_pos 32)
  have hxl : ∀ i, x i < 4294967296 := fun i => by rw [hx]; exact Nat.mod_lt _ (Nat.two_pow_pos 32)
  have hyl : ∀ i, y i < 4294967296 := fun i => by rw [hy]; exact Nat.mod_lt _ (Nat.two_pow_pos 32)
  have hel : ∀ i, e i < 4294967296 := fun i => by rw [he]; exact Nat.mod_lt _ (Nat.two_pow_pos 32)
  have hbl : ∀ i, b i ≤ 1 := fun i => by rw [hb]; exact bor_le 32 Wv (q * V) i
  have hdig : ∀ i, (c i + q * d i) % 2 ^ 32 = e i ∧ (c i + q * d i) / 2 ^ 32 = c (i + 1) := fun i => by rw [hc, hd, he, hc]; exact qd32 hq
  have hxw : ∀ i, x (a + i) = Wv / 2 ^ (32 * i) % 2 ^ 32 := fun i => by rw [hx, hX, window32 hlo (by omega), show a + i - a = i by omega]
  have hyw : ∀ i, i < k + 1 → y (a + i) = Z / 2 ^ (32 * i) % 2 ^ 32 := fun i hi => by
    rw [hy, hY, window32 hlo (by omega), show a + i - a = i by omega, hP]
    have := congrArg (fun l => l.getD i 0) (dl_mod 32 (k + 1) Z)
    simp only [dl_getD hi] at this
    exact this
  have hlo' : ∀ i, i < k + 1 → (x (a + i) + 2 ^ 32 - e i - b i) % 2 ^ 32 = y (a + i) := fun i hi => by
    rw [hxw, he, hb, hyw i hi, hZ]; exact bor_lo 32 (k + 1) Wv (q * V) i hi hqV
  have hhi : ∀ i, (if x (a + i) < e i + b i then 1 else 0) = b (i + 1) := fun i => by rw [hxw, he, hb, hb]; exact bor_hi 32 Wv (q * V) i
  have hcn : c k = e k := by
    have h1 := (hdig k).1
    have h2 : d k = 0 := by rw [hd]; exact word_zero hVl (Nat.le_refl k)
    rw [h2, Nat.mul_zero, Nat.add_zero, Nat.mod_eq_of_lt (show c k < 2 ^ 32 from hcl k)] at h1
    exact h1
  have hbn : b (k + 1) = 1 ↔ Wv < q * V := by
    rw [hb, bor, Nat.mod_eq_of_lt hWP, Nat.mod_eq_of_lt hqV]
    by_cases h : Wv < q * V <;> simp [h]
  have hb0 : b 0 = 0 := by rw [hb]; simp [bor, Nat.mod_one]
  have hc0 : c 0 = 0 := by rw [hc, mC_zero]
  have hlX : dl 32 L X = tb L x := tb_congr fun j hj => (hx j).symm
  have hlY : tb L (fun j => if a ≤ j ∧ j < a + (k + 1) then y j else x j) = tb L y := tb_congr fun j hj => by
    by_cases h : a ≤ j ∧ j < a + (k + 1)
    · rw [if_pos h]
    · rw [if_neg h, hx, hy]
      by_cases h2 : j < a
      · rw [hX, hY, below32 h2, below32 h2]
      · rw [hX, hY, window32 hlo (by omega), window32 hlo (by omega), word_zero hWP (by omega), word_zero hZP (by omega)]
  rw [← hX, hlX]
  have pK : ∀ i, i < k → part (us 32 (dg V)) i none = some (.u 32 (d i)) := fun i hi => by rw [hd]; exact dg_part (by omega)
  have kl : decide (k < 9223372036854775808) = true := decide_eq_true (by omega)
  have m32 : F (min 32 64) 32 := ⟨by decide⟩
  obtain ⟨vs, hvs⟩ : ∃ l, l = us 32 (dg V) := ⟨_, rfl⟩
  rw [← hvs] at pK ⊢
  obtain ⟨ak, hak⟩ : ∃ z, z = a + k := ⟨_, rfl⟩
  have wA : F (w64 ((a : Int) + (k : Int))) (ak : Int) := ⟨by unfold w64; omega⟩
  have iA := ixOf_nat (show ak < L by omega)
  have iA2 : (ak + 1 ≤ L) = True := by simp; omega
  simp only [EE,EX,Nat.reduceLeDiff,Nat.reduceEqDiff,Int.reduceEq,reduceCtorEq,Nat.reduceAdd,Nat.reduceMul,if_true,if_false,decide_true,decide_false]
  rw [loop_use T (fun i => ⟨[(0, .hs 1 0 0 L L), (1, .vs k vs), (2, .i (a : Int)), (7, .i (k : Int)), (9, .u 64 q), (11, .u 64 (c i)), (12, .u 64 (b i)), (13, .i (i : Int))], [some (us 32 (tb L fun j => if a ≤ j ∧ j < a + i then y j else x j)), some (us 32 gl)]⟩) k
    (.exit 2, ⟨[(0, .hs 1 0 0 L L), (1, .vs k vs), (2, .i (a : Int)), (7, .i (k : Int)), (9, .u 64 q), (11, .u 64 (c k)), (12, .u 64 (b k))], [some (us 32 (tb L fun j => if a ≤ j ∧ j < a + k then y j else x j)), some (us 32 gl)]⟩) ?h0 (by simp) ?hs ?hn]
  rotate_left
  · have e1 : tb L x = tb L (fun j => if a ≤ j ∧ j < a + 0 then y j else x j) := tb_congr fun j hj => by rw [if_neg (by omega)]
    rw [e1]; simp only [hb0, hc0]; rfl
  · intro i hi
    obtain ⟨ai, hai⟩ : ∃ z, z = a + i := ⟨_, rfl⟩
    obtain ⟨i1, hi1⟩ : ∃ z, z = i + 1 := ⟨_, rfl⟩
    have l1 : decide ((i : Int) < (k : Int)) = true := by simp; omega
    have l2 := ixOf_nat hi
    have l3 := pK i hi
    have l4 : d i % 2 ^ 64 = d i := Nat.mod_eq_of_lt (by have := hdl i; omega)
    have l5 : F (w64 ((i : Int) + 1)) (i1 : Int) := ⟨by unfold w64; omega⟩
    have l6 : F (w64 ((i : Int) + (a : Int))) (ai : Int) := ⟨by unfold w64; omega⟩
    have l7 := ixOf_nat (show ai < L by omega)
    have l8 := part_tb (w := 32) (fun j => if a ≤ j ∧ j < a + i then y j else x j) ai (show ai < L by omega)
    rw [if_neg (by omega)] at l8
    have l9 : (ai + 1 ≤ L) = True := by simp; omega
    have l13 : tb L (fun j => if j = ai then y ai else if a ≤ j ∧ j < a + i then y j else x j) = tb L (fun j => if a ≤ j ∧ j < a + (i + 1) then y j else x j) := by subst hai; exact win_stepL y x
    obtain ⟨m1, m2⟩ := step_fit hq (hdl i) (hcl i)
    obtain ⟨g1, g2⟩ := hdig i
    have g3 := hlo' i (by omega)
    have g4 := hhi i
    obtain ⟨s1, s2, s3, s4, s5⟩ := dsub_word (hxl (a + i)) (hel i) (hbl i)
    have s6 : x (a + i) % 2 ^ 64 = x (a + i) := Nat.mod_eq_of_lt (by have := hxl (a + i); omega)
    rw [Nat.add_comm (c i)] at g1 g2
    obtain ⟨a1, ha1⟩ : ∃ z, z = q * d i := ⟨_, rfl⟩
    rw [← ha1] at m1 m2 g1 g2
    obtain ⟨a2, ha2⟩ : ∃ z, z = a1 + c i := ⟨_, rfl⟩
    rw [← ha2] at m2 g1 g2
    have g5 : (a2 &&& 4294967295) = e i := by rw [and32p]; exact g1
    rw [g4] at s4
    rw [← hai] at s1 s2 s3 s4 s6 g3
    have hy1 := hyl ai
    obtain ⟨x3, hx3⟩ : ∃ z, z = x ai + 2 ^ 32 - e i - b i := ⟨_, rfl⟩
    rw [← hx3] at s3 s4 g3
    obtain ⟨x1, hx1⟩ : ∃ z, z = x ai + 4294967296 := ⟨_, rfl⟩
    rw [← hx1] at s1 s2 s3
    obtain ⟨x2, hx2⟩ : ∃ z, z = x1 - e i := ⟨_, rfl⟩
    rw [← hx2] at s2 s3
    have g6 : (x3 &&& 4294967295) % 2 ^ 32 = y ai := by rw [and32p, g3]; exact Nat.mod_eq_of_lt hy1
    rw [← hi1] at g2 s4 l13 ⊢
    simp only [EE,EX,Nat.reduceLeDiff,Nat.reduceEqDiff,Int.reduceEq,reduceCtorEq,Nat.reduceAdd,Nat.reduceMul,if_true,if_false,decide_true,decide_false, kl, m32.eq, l1, l2, l3, l4, l5.eq, l6.eq, l7, l8, l9, l13, ← ha1, m1, ← ha2, m2, g2, g5, s6, ← hx1, s1, s2, s3, g6, s4]
  · have l1 : decide ((k : Int) < (k : Int)) = false := by simp
    simp only [EE,EX,Nat.reduceLeDiff,Nat.reduceEqDiff,Int.reduceEq,reduceCtorEq,Nat.reduceAdd,Nat.reduceMul,if_true,if_false,decide_true,decide_false, kl, l1]
  have p1 := part_tb (w := 32) (fun j => if a ≤ j ∧ j < a + k then y j else x j) ak (show ak < L by omega)
  rw [if_neg (by omega)] at p1
  obtain ⟨s1, s2, s3, s4, s5⟩ := dsub_word (hxl (a + k)) (hel k) (hbl k)
  have s6 : x (a + k) % 2 ^ 64 = x (a + k) := Nat.mod_eq_of_lt (by have := hxl (a + k); omega)
  have g3 := hlo' k (by omega)
  have g4 := hhi k
  rw [g4] at s4
  have g7 : (x (a + k) + 2 ^ 32 - e k - b k) / 2 ^ 32 = 1 ↔ ¬ Wv < q * V := by
    rw [s5, ← hbn, ← g4]; split <;> simp_all
  rw [← hak] at s1 s2 s3 s4 s6 g3 g7
  have hy1 := hyl ak
  obtain ⟨x3, hx3⟩ : ∃ z, z = x ak + 2 ^ 32 - e k - b k := ⟨_, rfl⟩
  rw [← hx3] at s3 s4 g3 g7
  obtain ⟨x1, hx1⟩ : ∃ z, z = x ak + 4294967296 := ⟨_, rfl⟩
  rw [← hx1] at s1 s2 s3
  obtain ⟨x2, hx2⟩ : ∃ z, z = x1 - e k := ⟨_, rfl⟩
  rw [← hx2] at s2 s3
  have g6 : (x3 &&& 4294967295) % 2 ^ 32 = y ak := by rw [and32p, g3]; exact Nat.mod_eq_of_lt hy1
  have l13 : tb L (fun j => if j = ak then y ak else if a ≤ j ∧ j < a + k then y j else x j) = tb L y := by rw [← hlY]; subst hak; exact win_stepL y x
  by_cases hcase : Wv < q * V
  · obtain ⟨f1, f2, f3⟩ := E2 hcase
    have d1 : decide (x3 / 2 ^ 32 = 1) = false := decide_eq_false (fun h => (g7.1 h) hcase)
    obtain ⟨Ye2, hY2⟩ : ∃ Y, Y = lo + 2 ^ (32 * a) * (Wv % V) := ⟨_, rfl⟩
    obtain ⟨y2, hy2⟩ : ∃ x : Nat → Nat, ∀ j, x j = Ye2 / 2 ^ (32 * j) % 2 ^ 32 := ⟨_, fun _ => rfl⟩
    obtain ⟨cc, hcc⟩ : ∃ b : Nat → Nat, ∀ i, b i = (Z % P % 2 ^ (32 * i) + V % 2 ^ (32 * i)) / 2 ^ (32 * i) := ⟨_, fun _ => rfl⟩
    have hccl : ∀ i, cc i ≤ 1 := fun i => by rw [hcc]; exact carry_le 32 (Z % P) V i
    have hyw' : ∀ i, y (a + i) = Z % P / 2 ^ (32 * i) % 2 ^ 32 := fun i => by rw [hy, hY, window32 hlo (by omega), show a + i - a = i by omega]
    have hy2w : ∀ i, i < k + 1 → y2 (a + i) = (Z % P + V) / 2 ^ (32 * i) % 2 ^ 32 := fun i hi => by
      rw [hy2, hY2, window32 hlo (by omega), show a + i - a = i by omega, ← f3, ← hP, hP]
      have := congrArg (fun l => l.getD i 0) (dl_mod 32 (k + 1) (Z % P + V))
      simp only [dl_getD hi] at this
      rw [← hP] at this ⊢
      exact this
    have hlo2 : ∀ i, i < k + 1 → (y (a + i) + d i + cc i) % 2 ^ 32 = y2 (a + i) := fun i hi => by
      rw [hyw', hd, hcc, hy2w i hi]; exact carry_lo 32 (Z % P) V i
    have hhi2 : ∀ i, (y (a + i) + d i + cc i) / 2 ^ 32 = cc (i + 1) := fun i => by rw [hyw', hd, hcc, hcc]; exact carry_hi 32 (Z % P) V i
    have hcc0 : cc 0 = 0 := by rw [hcc]; simp [Nat.mod_one]
    have hlY2 : tb L (fun j => if a ≤ j ∧ j < a + (k + 1) then y2 j else y j) = dl 32 L Ye2 := tb_congr fun j hj => by
      by_cases h : a ≤ j ∧ j < a + (k + 1)
      · rw [if_pos h, hy2]
      · rw [if_neg h, hy]
        by_cases h2 : j < a
        · rw [hY, hY2, below32 h2, below32 h2]
        · rw [hY, hY2, window32 hlo (by omega), window32 hlo (by omega), word_zero hZP (by omega), word_zero (Nat.lt_of_le_of_lt (Nat.mod_le _ _) hWP) (by omega)]
    have d2 : (q + 2 ^ 64 - 1) % 2 ^ 64 = Wv / V := by omega
    simp only [EE,EX,Nat.reduceLeDiff,Nat.reduceEqDiff,Int.reduceEq,reduceCtorEq,Nat.reduceAdd,Nat.reduceMul,if_true,if_false,decide_true,decide_false, kl, m32.eq, wA.eq, iA, iA2, p1, s6, ← hx1, s1, hcn, s2, s3, g6, l13, d1]
    rw [loop_use T (fun i => ⟨[(0, .hs 1 0 0 L L), (1, .vs k vs), (2, .i (a : Int)), (7, .i (k : Int)), (9, .u 64 q), (11, .u 64 (cc i)), (17, .i (i : Int))], [some (us 32 (tb L fun j => if a ≤ j ∧ j < a + i then y2 j else y j)), some (us 32 gl)]⟩) k
      (.exit 4, ⟨[(0, .hs 1 0 0 L L), (2, .i (a : Int)), (7, .i (k : Int)), (9, .u 64 q), (11, .u 64 (cc k))], [some (us 32 (tb L fun j => if a ≤ j ∧ j < a + k then y2 j else y j)), some (us 32 gl)]⟩) ?h0b (by simp) ?hsb ?hnb]
    rotate_left
    · have e1 : tb L y = tb L (fun j => if a ≤ j ∧ j < a + 0 then y2 j else y j) := tb_congr fun j hj => by rw [if_neg (by omega)]
      rw [e1]; simp only [hcc0]; rfl
    · intro i hi
      obtain ⟨ai, hai⟩ : ∃ z, z = a + i := ⟨_, rfl⟩
      obtain ⟨i1, hi1⟩ : ∃ z, z = i + 1 := ⟨_, rfl⟩
      have l1 : decide ((i : Int) < (k : Int)) = true := by simp; omega
      have l2 := ixOf_nat hi
      have l3 := pK i hi
      have l4 : d i % 2 ^ 64 = d i := Nat.mod_eq_of_lt (by have := hdl i; omega)
      have l5 : F (w64 ((i : Int) + 1)) (i1 : Int) := ⟨by unfold w64; omega⟩
      have l6 : F (w64 ((i : Int) + (a : Int))) (ai : Int) := ⟨by unfold w64; omega⟩
      have l7 := ixOf_nat (show ai < L by omega)
      have l8 := part_tb (w := 32) (fun j => if a ≤ j ∧ j < a + i then y2 j else y j) ai (show ai < L by omega)
      rw [if_neg (by omega)] at l8
      have l9 : (ai + 1 ≤ L) = True := by simp; omega
      have l13 : tb L (fun j => if j = ai then y2 ai else if a ≤ j ∧ j < a + i then y2 j else y j) = tb L (fun j => if a ≤ j ∧ j < a + (i + 1) then y2 j else y j) := by subst hai; exact win_stepL y2 y
      have g1 := hlo2 i (by omega)
      have g2 := hhi2 i
      rw [← hai] at g1 g2
      have t1 : y ai % 2 ^ 64 = y ai := Nat.mod_eq_of_lt (by have := hyl ai; omega)
      have t2 : (y ai + d i) % 2 ^ 64 = y ai + d i := Nat.mod_eq_of_lt (by have := hyl ai; have := hdl i; omega)
      have t3 : (y ai + d i + cc i) % 2 ^ 64 = y ai + d i + cc i := Nat.mod_eq_of_lt (by have := hyl ai; have := hdl i; have := hccl i; omega)
      have t5 : y2 ai < 2 ^ 32 := by rw [hy2]; exact Nat.mod_lt _ (Nat.two_pow_pos 32)
      obtain ⟨s, hs⟩ : ∃ z, z = y ai + d i + cc i := ⟨_, rfl⟩
      rw [← hs] at g1 g2 t3
      have t4 : (s &&& 4294967295) % 2 ^ 32 = y2 ai := by rw [and32p, g1]; exact Nat.mod_eq_of_lt t5
      rw [← hi1] at g2 l13 ⊢
      simp only [EE,EX,Nat.reduceLeDiff,Nat.reduceEqDiff,Int.reduceEq,reduceCtorEq,Nat.reduceAdd,Nat.reduceMul,if_true,if_false,decide_true,decide_false, kl, m32.eq, l1, l2, l3, l4, l5.eq, l6.eq, l7, l8, l9, l13, t1, t2, ← hs, t3, t4, g2]
    · have l1 : decide ((k : Int) < (k : Int)) = false := by simp
      simp only [EE,EX,Nat.reduceLeDiff,Nat.reduceEqDiff,Int.reduceEq,reduceCtorEq,Nat.reduceAdd,Nat.reduceMul,if_true,if_false,decide_true,decide_false, kl, l1]
    have p2 := part_tb (w := 32) (fun j => if a ≤ j ∧ j < a + k then y2 j else y j) ak (show ak < L by omega)
    rw [if_neg (by omega)] at p2
    have g1 := hlo2 k (by omega)
    have hdk : d k = 0 := by rw [hd]; exact word_zero hVl (Nat.le_refl k)
    rw [hdk, Nat.add_zero, ← hak] at g1
    have g8 : cc k % 2 ^ 32 = cc k := Nat.mod_eq_of_lt (by have := hccl k; omega)
    have l14 : tb L (fun j => if j = ak then y2 ak else if a ≤ j ∧ j < a + k then y2 j else y j) = dl 32 L Ye2 := by rw [← hlY2]; subst hak; exact win_stepL y2 y
    simp only [EE,EX,Nat.reduceLeDiff,Nat.reduceEqDiff,Int.reduceEq,reduceCtorEq,Nat.reduceAdd,Nat.reduceMul,if_true,if_false,decide_true,decide_false, kl, wA.eq, iA, iA2, p2, g8, g1, l14, d2, ← hY2]
  · obtain ⟨f1, f2⟩ := E1 hcase
    have d1 : decide (x3 / 2 ^ 32 = 1) = true := decide_eq_true (g7.2 hcase)
    have hlY3 : tb L y = dl 32 L (lo + 2 ^ (32 * a) * (Wv % V)) := tb_congr fun j hj => by rw [hy, hY, hP, f2]
    rw [hlY3] at l13
    rw [← f1]
    simp only [EE,EX,Nat.reduceLeDiff,Nat.reduceEqDiff,Int.reduceEq,reduceCtorEq,Nat.reduceAdd,Nat.reduceMul,if_true,if_false,decide_true,decide_false, kl, m32.eq, wA.eq, iA, iA2, p1, s6, ← hx1, s1, hcn, s2, s3, g6, l13, d1]

end Mir

namespace Mir

theorem or_add32 {r u : Nat} (hu : u < 4294967296) : (r * 4294967296 ||| u) = r * 4294967296 + u := by
  have h : u < 2 ^ 32 := hu
  rw [show r * 4294967296 = 2 ^ 32 * r by omega, ← Nat.two_pow_add_eq_or_of_lt h]
theorem or_add32' {r u : Nat} (hu : u < 4294967296) : (r * 4294967296 ||| u) = 4294967296 * r + u := by
  rw [or_add32 hu, Nat.mul_comm]

theorem sh32 {r : Nat} (h : r < 4294967296) : r * 2 ^ 32 % 2 ^ 64 = r * 4294967296 := by omega

theorem r_step {V lo Wv a k L : Nat} {gl : List Nat} (hk : k = (dg V).length) (hk2 : 2 ≤ k) (hV2 : 2147483648 ≤ V / 2 ^ (32 * (k - 1))) (hlo : lo < 2 ^ (32 * a)) (hW : Wv < V * 2 ^ 32) (ha : a + k < L) (hL : L < 1000000000) :
    Run T f_curvetref1_step [.hs 1 0 0 L L, num V, .i (a : Int)] [some (us 32 (dl 32 L (lo + 2 ^ (32 * a) * Wv))), some (us 32 gl)] =
      some (.u 64 (Wv / V), [some (us 32 (dl 32 L (lo + 2 ^ (32 * a) * (Wv % V)))), some (us 32 gl)]) := by
  rw [Run_at T _ (show T f_curvetref1_step = some m_curvetref1_step from rfl)]
  simp only [c_curvetref1_step]
  have hVl : V < 2 ^ (32 * k) := by rw [hk]; exact dg_len_lt V
  have hVp : 0 < V := by
    rcases Nat.eq_zero_or_pos V with h | h
    · rw [h, Nat.zero_div] at hV2; omega
    · exact h
  obtain ⟨k1, hk1⟩ : ∃ z, z = k - 1 := ⟨_, rfl⟩
  obtain ⟨k2, hk2'⟩ : ∃ z, z = k - 2 := ⟨_, rfl⟩
  obtain ⟨ak, hak⟩ : ∃ z, z = a + k := ⟨_, rfl⟩
  obtain ⟨a1, ha1⟩ : ∃ z, z = a + k1 := ⟨_, rfl⟩
  obtain ⟨a2, ha2⟩ : ∃ z, z = a + k2 := ⟨_, rfl⟩
  rw [← hk1] at hV2
  obtain ⟨d, hd⟩ : ∃ d : Nat → Nat, ∀ i, d i = V / 2 ^ (32 * i) % 2 ^ 32 := ⟨_, fun _ => rfl⟩
  have hdl : ∀ i, d i < 4294967296 := fun i => by rw [hd]; exact Nat.mod_lt _ (Nat.two_pow_pos 32)
  obtain ⟨X, hX⟩ : ∃ X, X = lo + 2 ^ (32 * a) * Wv := ⟨_, rfl⟩
  obtain ⟨x, hx⟩ : ∃ x : Nat → Nat, ∀ j, x j = X / 2 ^ (32 * j) % 2 ^ 32 := ⟨_, fun _ => rfl⟩
  have hxl : ∀ j, x j < 4294967296 := fun j => by rw [hx]; exact Nat.mod_lt _ (Nat.two_pow_pos 32)
  have hxw : ∀ i, x (a + i) = Wv / 2 ^ (32 * i) % 2 ^ 32 := fun i => by rw [hx, hX, window32 hlo (by omega), show a + i - a = i by omega]
  have hlX : dl 32 L X = tb L x := tb_congr fun j hj => (hx j).symm
  have hWl : Wv < 2 ^ (32 * (k + 1)) := by
    rw [show 32 * (k + 1) = 32 * k + 32 by omega, Nat.pow_add]
    exact Nat.lt_of_lt_of_le hW (Nat.mul_le_mul_right _ (Nat.le_of_lt hVl))
  -- the digits that the guess reads
  have hv1e : d k1 = V / 2 ^ (32 * k1) := by
    rw [hd]; apply Nat.mod_eq_of_lt
    rw [Nat.div_lt_iff_lt_mul (Nat.two_pow_pos _), ← Nat.pow_add, show 32 + 32 * k1 = 32 * k by omega]; exact hVl
  have hx0 : x ak = Wv / 2 ^ (32 * k) := by
    rw [hak, hxw]; apply Nat.mod_eq_of_lt
    rw [Nat.div_lt_iff_lt_mul (Nat.two_pow_pos _), ← Nat.pow_add, show 32 + 32 * k = 32 * (k + 1) by omega]; exact hWl
  have hU : x ak * 4294967296 + x a1 = Wv / 2 ^ (32 * k1) := by
    have := two_parts32 Wv k1
    rw [show k1 + 1 = k by omega] at this
    rw [hx0, ha1, hxw]; exact this.symm
  have hN : (x ak * 4294967296 + x a1) * 4294967296 + x a2 = Wv / 2 ^ (32 * k2) := by
    have := two_parts32 Wv k2
    rw [show k2 + 1 = k1 by omega] at this
    rw [hU, ha2, hxw]; exact this.symm
  have hy : V / 2 ^ (32 * k2) = d k1 * 4294967296 + d k2 := by
    have := two_parts32 V k2
    rw [show k2 + 1 = k1 by omega] at this
    rw [hv1e, hd]; exact this
  have htl : Wv / V < 4294967296 := by rw [Nat.div_lt_iff_lt_mul hVp, Nat.mul_comm]; exact hW
  have hty := q_le (t := Wv / V) (D := V) (Wv := Wv) (P := 2 ^ (32 * k2)) (Nat.two_pow_pos _) (Nat.div_mul_le_self _ _)
  have hUy : x ak * 4294967296 + x a1 ≤ d k1 * 4294967296 + d k2 := by
    have h1 : Wv / 2 ^ (32 * k2) < (d k1 * 4294967296 + d k2 + 1) * 4294967296 := by
      rw [Nat.div_lt_iff_lt_mul (Nat.two_pow_pos _)]
      have h2 : V < (V / 2 ^ (32 * k2) + 1) * 2 ^ (32 * k2) := by rw [Nat.mul_comm]; exact Nat.lt_mul_div_succ V (Nat.two_pow_pos _)
      rw [hy] at h2
      have h3 : V * 4294967296 < (d k1 * 4294967296 + d k2 + 1) * 2 ^ (32 * k2) * 4294967296 := Nat.mul_lt_mul_of_pos_right h2 (by omega)
      rw [Nat.mul_right_comm]
      exact Nat.lt_trans hW h3
    rw [← hN] at h1
    omega
  rw [← hN, hy] at hty
  obtain ⟨v1, hv1⟩ : ∃ z, d k1 = z := ⟨_, rfl⟩
  obtain ⟨v0, hv0⟩ : ∃ z, d k2 = z := ⟨_, rfl⟩
  obtain ⟨u0, hu0⟩ : ∃ z, x ak = z := ⟨_, rfl⟩
  obtain ⟨u1, hu1⟩ : ∃ z, x a1 = z := ⟨_, rfl⟩
  obtain ⟨u2, hu2⟩ : ∃ z, x a2 = z := ⟨_, rfl⟩
  have hv1l : v1 < 4294967296 := by rw [← hv1]; exact hdl _
  have hv0l : v0 < 4294967296 := by rw [← hv0]; exact hdl _
  have hu0l : u0 < 4294967296 := by rw [← hu0]; exact hxl _
  have hu1l : u1 < 4294967296 := by rw [← hu1]; exact hxl _
  have hu2l : u2 < 4294967296 := by rw [← hu2]; exact hxl _
  have hv1g : 2147483648 ≤ v1 := by rw [← hv1, hv1e]; exact hV2
  rw [hv1, hv0] at hty hUy hy
  rw [hu0, hu1] at hty hUy
  rw [hu2] at hty
  rw [hu0, hu1, hu2] at hN
  obtain ⟨U, hUe⟩ : ∃ U, U = u0 * 4294967296 + u1 := ⟨_, rfl⟩
  rw [← hUe] at hty hUy hN
  obtain ⟨t, ht⟩ : ∃ t, t = Wv / V := ⟨_, rfl⟩
  rw [← ht] at htl hty
  obtain ⟨y, hye⟩ : ∃ y, y = v1 * 4294967296 + v0 := ⟨_, rfl⟩
  rw [← hye] at hty hUy hy
  obtain ⟨q, r, K, hqa, hra, hKa, hqla, hsta, henda, hrla⟩ := est32d rfl hye hv0l hv1g hv1l hUy hu2l htl hty
  have kl : decide (k < 9223372036854775808) = true := decide_eq_true (by have := ha; omega)
  have m32 : min 32 64 = 32 := by decide
  have cK1 : F (w64 ((k : Int) - 1)) (k1 : Int) := ⟨by unfold w64; omega⟩
  have cK2 : F (w64 ((k : Int) - 2)) (k2 : Int) := ⟨by unfold w64; omega⟩
  have wA : F (w64 ((a : Int) + (k : Int))) (ak : Int) := ⟨by unfold w64; omega⟩
  have wB : F (w64 ((ak : Int) - 1)) (a1 : Int) := ⟨by unfold w64; omega⟩
  have wC : F (w64 ((ak : Int) - 2)) (a2 : Int) := ⟨by unfold w64; omega⟩
  have iK1 := ixOf_nat (show k1 < k by omega)
  have iK2 := ixOf_nat (show k2 < k by omega)
  have iA := ixOf_nat (show ak < L by omega)
  have iB := ixOf_nat (show a1 < L by omega)
  have iC := ixOf_nat (show a2 < L by omega)
  have pK : ∀ i, i < k → part (us 32 (dg V)) i none = some (.u 32 (d i)) := fun i hi => by rw [hd]; exact dg_part (by omega)
  have pK1 := pK k1 (by omega)
  have pK2 := pK k2 (by omega)
  rw [hv1] at pK1
  rw [hv0] at pK2
  have pA := part_tb (w := 32) x ak (show ak < L by omega)
  have pB := part_tb (w := 32) x a1 (show a1 < L by omega)
  have pC := part_tb (w := 32) x a2 (show a2 < L by omega)
  rw [hu0] at pA
  rw [hu1] at pB
  rw [hu2] at pC
  have z0 : u0 % 2 ^ 64 = u0 := by omega
  have z1 : u1 % 2 ^ 64 = u1 := by omega
  have z2 : u2 % 2 ^ 64 = u2 := by omega
  have z3 : v1 % 2 ^ 64 = v1 := by omega
  have z4 : v0 % 2 ^ 64 = v0 := by omega
  have z5 : u0 * 2 ^ 32 % 2 ^ 64 = u0 * 4294967296 := by omega
  have z6 : (u0 * 4294967296 ||| u1) = U := by rw [or_add32 hu1l]; exact hUe.symm
  have z7 : decide (v1 = 0) = false := decide_eq_false (by omega)
  have z8 : U / v1 = q 0 := by rw [hqa]; exact (Nat.sub_zero _).symm
  have z9 : U % v1 = r 0 := by rw [hra, Nat.zero_mul, Nat.add_zero]
  obtain ⟨vs, hvs⟩ : ∃ l, l = us 32 (dg V) := ⟨_, rfl⟩
  rw [← hX, hlX]
  simp only [num, ← hk, ← hvs] at pK pK1 pK2 ⊢
  simp only [EE,EX,Nat.reduceLeDiff,Nat.reduceEqDiff,Int.reduceEq,reduceCtorEq,Nat.reduceAdd,Nat.reduceMul,if_true,if_false,decide_true,decide_false, kl, m32, cK1.eq, wA.eq, wB.eq, iK1, iA, iB, pK1, pA, pB, z0, z1, z3, z5, z6, z7, z8, z9]
  obtain ⟨qf, hqf⟩ : ∃ z, z = if q K < 4294967296 ∧ q K * v0 ≤ 4294967296 * r K + u2 then q K else q (K + 1) := ⟨_, rfl⟩
  have hq1 : t ≤ qf ∧ qf < 4294967296 ∧ qf * y ≤ U * 4294967296 + u2 := by
    rw [hqf]
    rcases henda with ⟨g1, g2, g3, g4⟩ | ⟨g1, g2, g3, g4, g5, g6⟩
    · rw [if_pos ⟨g1, g2⟩]; exact ⟨g3, g1, g4⟩
    · rw [if_neg (by omega)]; exact ⟨g4, g5, g6⟩
  rw [loop_use T (fun i => ⟨[(0, .hs 1 0 0 L L), (1, .vs k vs), (2, .i (a : Int)), (7, .i (k : Int)), (9, .u 64 (q i)), (10, .u 64 (r i))], [some (us 32 (tb L x)), some (us 32 gl)]⟩) K
    (.exit 0, ⟨[(0, .hs 1 0 0 L L), (1, .vs k vs), (2, .i (a : Int)), (7, .i (k : Int)), (9, .u 64 qf)], [some (us 32 (tb L x)), some (us 32 gl)]⟩) ?h0a (by simp) ?hsa ?hna]
  rotate_left
  · rfl
  · intro i hi
    obtain ⟨g1, g2, g3⟩ := hsta i hi
    have d3 : decide (4294967296 ≤ r (i + 1)) = false := decide_eq_false (by omega)
    have s1 : (q i + 2 ^ 64 - 1) % 2 ^ 64 = q (i + 1) := by rw [hqa, hqa]; rw [hqa] at g2; exact dec_lem g2 hqla
    have s2 : (r i + v1) % 2 ^ 64 = r (i + 1) := by have h3 := hrla i (by omega); rw [hra] at h3; rw [hra, hra]; exact inc_lem h3 hv1l
    have p2 : r i * 2 ^ 32 % 2 ^ 64 = r i * 4294967296 := sh32 (hrla i (by omega))
    have p3 : (r i * 4294967296 ||| u2) = 4294967296 * r i + u2 := or_add32' hu2l
    rcases g3 with g | ⟨g, g4⟩
    · have d1 : decide (4294967296 ≤ q i) = true := decide_eq_true g
      simp only [EE,EX,Nat.reduceLeDiff,Nat.reduceEqDiff,Int.reduceEq,reduceCtorEq,Nat.reduceAdd,Nat.reduceMul,if_true,if_false,decide_true,decide_false, m32, cK1.eq, cK2.eq, wA.eq, wB.eq, wC.eq, iK1, iK2, pK1, pK2, iC, pC, kl, d1, s1, s2, d3, z2, z3, z4]
    · have d1 : decide (4294967296 ≤ q i) = false := decide_eq_false (by omega)
      have d2 : decide (4294967296 * r i + u2 < q i * v0) = true := decide_eq_true g4
      have p1 : q i * v0 % 2 ^ 64 = q i * v0 := Nat.mod_eq_of_lt (mul32 g hv0l)
      simp only [EE,EX,Nat.reduceLeDiff,Nat.reduceEqDiff,Int.reduceEq,reduceCtorEq,Nat.reduceAdd,Nat.reduceMul,if_true,if_false,decide_true,decide_false, m32, cK1.eq, cK2.eq, wA.eq, wB.eq, wC.eq, iK1, iK2, pK1, pK2, iC, pC, kl, d1, d2, p1, p2, p3, s1, s2, d3, z2, z3, z4]
  · have bx1 : ∀ st, bk 1 (some (.exit 0, st)) = some (.exit 0, st) := fun _ => X0 1 0 _ rfl
    have p2 : r K * 2 ^ 32 % 2 ^ 64 = r K * 4294967296 := sh32 (hrla K (by omega))
    have p3 : (r K * 4294967296 ||| u2) = 4294967296 * r K + u2 := or_add32' hu2l
    rcases henda with ⟨g1, g2, g3', g4'⟩ | ⟨g1, g2, g3, g4', g5, g6⟩
    · have d1 : decide (4294967296 ≤ q K) = false := decide_eq_false (by omega)
      have d2 : decide (4294967296 * r K + u2 < q K * v0) = false := decide_eq_false (by omega)
      have p1 : q K * v0 % 2 ^ 64 = q K * v0 := Nat.mod_eq_of_lt (mul32 g1 hv0l)
      rw [if_pos ⟨g1, g2⟩] at hqf
      rw [hqf]
      simp only [EE,EX,Nat.reduceLeDiff,Nat.reduceEqDiff,Int.reduceEq,reduceCtorEq,Nat.reduceAdd,Nat.reduceMul,if_true,if_false,decide_true,decide_false, m32, cK1.eq, cK2.eq, wA.eq, wB.eq, wC.eq, iK1, iK2, pK1, pK2, iC, pC, kl, d1, d2, p1, p2, p3, z2, z3, z4]
    · have d3 : decide (4294967296 ≤ r (K + 1)) = true := decide_eq_true g1
      rw [if_neg (by omega)] at hqf
      rw [hqf]
      have s1 : (q K + 2 ^ 64 - 1) % 2 ^ 64 = q (K + 1) := by rw [hqa, hqa]; rw [hqa] at g2; exact dec_lem g2 hqla
      have s2 : (r K + v1) % 2 ^ 64 = r (K + 1) := by have h3 := hrla K (by omega); rw [hra] at h3; rw [hra, hra]; exact inc_lem h3 hv1l
      have p2 : r K * 2 ^ 32 % 2 ^ 64 = r K * 4294967296 := sh32 (hrla K (by omega))
      have p3 : (r K * 4294967296 ||| u2) = 4294967296 * r K + u2 := or_add32' hu2l
      rcases g3 with g | ⟨g, g4⟩
      · have d1 : decide (4294967296 ≤ q K) = true := decide_eq_true g
        simp only [EE,EX,Nat.reduceLeDiff,Nat.reduceEqDiff,Int.reduceEq,reduceCtorEq,Nat.reduceAdd,Nat.reduceMul,if_true,if_false,decide_true,decide_false, m32, cK1.eq, cK2.eq, wA.eq, wB.eq, wC.eq, iK1, iK2, pK1, pK2, iC, pC, kl, d1, s1, s2, d3, bx1, z2, z3, z4]
      · have d1 : decide (4294967296 ≤ q K) = false := decide_eq_false (by omega)
        have d2 : decide (4294967296 * r K + u2 < q K * v0) = true := decide_eq_true g4
        have p1 : q K * v0 % 2 ^ 64 = q K * v0 := Nat.mod_eq_of_lt (mul32 g hv0l)
        simp only [EE,EX,Nat.reduceLeDiff,Nat.reduceEqDiff,Int.reduceEq,reduceCtorEq,Nat.reduceAdd,Nat.reduceMul,if_true,if_false,decide_true,decide_false, m32, cK1.eq, cK2.eq, wA.eq, wB.eq, wC.eq, iK1, iK2, pK1, pK2, iC, pC, kl, d1, d2, p1, p2, p3, s1, s2, d3, bx1, z2, z3, z4]
  have hq2 : (qf - 1) * V ≤ Wv := guess_one (y := y) (N := Wv / 2 ^ (32 * k2)) (Nat.two_pow_pos _) rfl hy.symm (by rw [← hN]; exact hq1.2.2) (by omega)
  have e := step_tail (gl := gl) (a := a) (L := L) hk hlo hW ha hL hVp hq1.2.1 (by rw [← ht]; exact hq1.1) hq2
  simp only [c_curvetref1_step, tailN, GX, GY] at e
  rw [← hvs, ← hX, hlX] at e
  rw [XZ, XR, e]
  have l9 : ∀ R, [some (us 32 R), some (us 32 gl)].all (lowR 2) = true := fun R => by simp [lowR, us_low]
  simp only [EE,EX,Nat.reduceLeDiff,Nat.reduceEqDiff,Int.reduceEq,reduceCtorEq,Nat.reduceAdd,Nat.reduceMul,if_true,if_false,decide_true,decide_false, l9, List.take_succ_cons, List.take_nil]

end Mir

namespace Mir

/-- What is left when the words from a on are divided; the window that is divided next. -/
def stM (N D a : Nat) : Nat := N % 2 ^ (32 * a) + 2 ^ (32 * a) * (N / 2 ^ (32 * a) % D)
def wvM (N D a : Nat) : Nat := N / 2 ^ (32 * (a + 1)) % D * 4294967296 + N / 2 ^ (32 * a) % 2 ^ 32

theorem stM_win (N D a : Nat) : stM N D (a + 1) = N % 2 ^ (32 * a) + 2 ^ (32 * a) * wvM N D a := by
  have e : 2 ^ (32 * (a + 1)) = 2 ^ (32 * a) * 4294967296 := by rw [Nat.mul_add, Nat.pow_add]
  have h : N % 2 ^ (32 * (a + 1)) = N % 2 ^ (32 * a) + 2 ^ (32 * a) * (N / 2 ^ (32 * a) % 2 ^ 32) := by rw [e, Nat.mod_mul]
  rw [stM, wvM, h]
  obtain ⟨r, hr⟩ : ∃ r, r = N / 2 ^ (32 * (a + 1)) % D := ⟨_, rfl⟩
  rw [← hr, e]
  obtain ⟨A, hA⟩ : ∃ A, A = 2 ^ (32 * a) := ⟨_, rfl⟩
  obtain ⟨u, hu⟩ : ∃ u, u = N / 2 ^ (32 * a) % 2 ^ 32 := ⟨_, rfl⟩
  rw [← hu, ← hA, Nat.mul_add, Nat.mul_assoc, Nat.mul_comm 4294967296 r]
  omega
theorem wv_partsM (N D a : Nat) : N / 2 ^ (32 * a) = wvM N D a + D * (N / 2 ^ (32 * (a + 1)) / D * 4294967296) := by
  have h1 := two_parts32 N a
  have h2 := Nat.div_add_mod (N / 2 ^ (32 * (a + 1))) D
  obtain ⟨n1, hn⟩ : ∃ z, z = N / 2 ^ (32 * (a + 1)) := ⟨_, rfl⟩
  rw [← hn] at h1 h2
  rw [wvM, ← hn, ← Nat.mul_assoc]
  obtain ⟨u, hu⟩ : ∃ u, u = N / 2 ^ (32 * a) % 2 ^ 32 := ⟨_, rfl⟩
  obtain ⟨z, hz⟩ : ∃ z, z = N / 2 ^ (32 * a) := ⟨_, rfl⟩
  rw [← hz] at h1 hu ⊢
  rw [← hu] at h1 ⊢
  obtain ⟨B, hB⟩ : ∃ B, B = 4294967296 := ⟨_, rfl⟩
  rw [← hB] at h1 ⊢
  have h3 : n1 * B = (D * (n1 / D) + n1 % D) * B := by rw [h2]
  rw [Nat.add_mul] at h3
  omega
theorem wv_modM {N D a : Nat} : wvM N D a % D = N / 2 ^ (32 * a) % D := by
  rw [wv_partsM N D a, Nat.add_mul_mod_self_left]
theorem wv_ltM {N D a : Nat} (hD : 0 < D) : wvM N D a < D * 2 ^ 32 := by
  have h1 := Nat.mod_lt (N / 2 ^ (32 * (a + 1))) hD
  have h2 : N / 2 ^ (32 * a) % 2 ^ 32 < 2 ^ 32 := Nat.mod_lt _ (Nat.two_pow_pos 32)
  rw [wvM]
  omega
theorem wv_divM {N D a : Nat} (hD : 0 < D) : wvM N D a / D = N / D / 2 ^ (32 * a) % 2 ^ 32 := by
  have h1 : wvM N D a / D < 2 ^ 32 := by rw [Nat.div_lt_iff_lt_mul hD, Nat.mul_comm]; exact wv_ltM hD
  rw [Nat.div_div_eq_div_mul, Nat.mul_comm D, ← Nat.div_div_eq_div_mul, wv_partsM N D a, Nat.add_mul_div_left _ _ hD]
  obtain ⟨u, hu⟩ : ∃ u, u = wvM N D a / D := ⟨_, rfl⟩
  obtain ⟨v, hv⟩ : ∃ v, v = N / 2 ^ (32 * (a + 1)) / D := ⟨_, rfl⟩
  rw [← hu] at h1 ⊢
  rw [← hv]
  omega
theorem stM_next {N D a : Nat} : stM N D a = N % 2 ^ (32 * a) + 2 ^ (32 * a) * (wvM N D a % D) := by rw [stM, wv_modM]
theorem stM_zero (N D : Nat) : stM N D 0 = N % D := by simp [stM, Nat.mod_one]
theorem stM_top {N D a : Nat} (h : N / 2 ^ (32 * a) < D) : stM N D a = N := by
  rw [stM, Nat.mod_eq_of_lt h, Nat.add_comm]; exact Nat.div_add_mod N _
/-- The top of a number of L words, shifted, is below a divisor of n words. -/
theorem top_smallM {W s L n D a : Nat} (hW : W < 2 ^ (32 * L)) (hs : s < 32) (hn : 1 ≤ n) (hD2 : 2 ^ 31 ≤ D / 2 ^ (32 * (n - 1))) (ha : L ≤ n - 1 + a) : W * 2 ^ s / 2 ^ (32 * a) < D := by
  have h1 : 2 ^ 31 * 2 ^ (32 * (n - 1)) ≤ D := (Nat.le_div_iff_mul_le (Nat.two_pow_pos _)).1 hD2
  refine Nat.lt_of_lt_of_le ?_ h1
  rw [Nat.div_lt_iff_lt_mul (Nat.two_pow_pos _), ← Nat.pow_add, ← Nat.pow_add]
  refine Nat.lt_of_lt_of_le (Nat.mul_lt_mul_of_pos_right hW (Nat.two_pow_pos s)) ?_
  rw [← Nat.pow_add]
  exact Nat.pow_le_pow_right (by omega) (by omega)


theorem zm_nil (nk : Bool) (H : Heap) (b m : Nat) : fzV nk H b (m + 1) (.vs 0 []) = some (.vs 0 []) := GF nk H b m 0 32 []

theorem lit_one {r : Nat} (hr : r < 2 ^ 32) : Run T f_curvetref1_trim [.vs 1 [.u 32 r]] [] = some (num r, []) := by
  have h := r_trimV (l := dl 32 1 r) (by rw [dl_len]; omega)
  have h2 : r < 2 ^ (32 * 1) := by simpa using hr
  rw [dl_len, take_dl h2, tl_dl h2] at h
  have e : us 32 (dl 32 1 r) = [.u 32 r] := by
    show [V.u 32 (r / 2 ^ (32 * 0) % 2 ^ 32)] = _
    rw [Nat.mul_zero, Nat.pow_zero, Nat.div_one, Nat.mod_eq_of_lt hr]
  rw [e] at h
  exact h

theorem r_short {a m : Nat} (ha : Fit a) (hm : m < 4294967296) (h0 : m ≠ 0) : Run T f_curvetref1_short [num a, .u 64 m] [] = some (.tup [num (a / m), num (a % m)], []) := by
  rw [Run_at T _ (show T f_curvetref1_short = some m_curvetref1_short from rfl)]
  simp only [c_curvetref1_short]
  have hLa := dg_len_lt a
  obtain ⟨n, hn⟩ : ∃ n, n = (dg a).length := ⟨_, rfl⟩
  have hn9 : n < 1000000000 := by rw [hn]; exact ha
  rw [← hn] at hLa
  have hmp : 0 < m := Nat.pos_of_ne_zero h0
  obtain ⟨p, hp⟩ : ∃ p : Nat → Nat, ∀ i, p i = a / 2 ^ (32 * i) % 2 ^ 32 := ⟨_, fun _ => rfl⟩
  obtain ⟨q, hq⟩ : ∃ q : Nat → Nat, ∀ i, q i = a / m / 2 ^ (32 * i) % 2 ^ 32 := ⟨_, fun _ => rfl⟩
  obtain ⟨r, hr⟩ : ∃ r : Nat → Nat, ∀ i, r i = a / 2 ^ (32 * i) % m := ⟨_, fun _ => rfl⟩
  have pa : ∀ i, i < n → part (us 32 (dg a)) i none = some (.u 32 (p i)) := fun i hi => by rw [hp]; exact dg_part (by omega)
  have hpl : ∀ i, p i < 4294967296 := fun i => by rw [hp]; exact Nat.mod_lt _ (Nat.two_pow_pos 32)
  have hql : ∀ i, q i < 4294967296 := fun i => by rw [hq]; exact Nat.mod_lt _ (Nat.two_pow_pos 32)
  have hrl : ∀ i, r i < 4294967296 := fun i => by rw [hr]; exact Nat.lt_trans (Nat.mod_lt _ hmp) hm
  have kl : decide (n < 9223372036854775808) = true := decide_eq_true (by omega)
  have k6 := ixOf_nat (show n < 140737488355329 by omega)
  have k7 := ixOf_nat (show n < n + 1 by omega)
  have k8 : roomOk n 4 = true := by simp [roomOk]; omega
  have k9 : F (w64 ((n : Int) - 1)) ((n : Int) - 1) := ⟨by unfold w64; omega⟩
  have m32 : F (min 32 64) 32 := ⟨by decide⟩
  have z0 : decide (m = 0) = false := decide_eq_false h0
  simp only [num, ← hn]
  simp only [EE,EX,Nat.reduceLeDiff,Nat.reduceEqDiff,Int.reduceEq,reduceCtorEq,Nat.reduceAdd,Nat.reduceMul,if_true,if_false,decide_true,decide_false, kl, k6, k7, k8, k9.eq]
  rw [loop_use T (fun k => ⟨[(0, .vs n (us 32 (dg a))), (1, .u 64 m), (6, .hs 1 0 0 n n), (7, .u 64 (r (n - k))), (8, .i ((n : Int) - 1 - (k : Int)))], [some (us 32 (tb n fun j => if n - k ≤ j then q j else 0))]⟩) n
    (.exit 0, ⟨[(6, .hs 1 0 0 n n), (7, .u 64 (a % m))], [some (us 32 (dl 32 n (a / m)))]⟩) ?h0 (by simp) ?hs ?hn]
  · have hS : a / m < 2 ^ (32 * n) := Nat.lt_of_le_of_lt (Nat.div_le_self _ _) hLa
    have l1 := r_trimD hS (by omega)
    have l2 := take_dgD hS
    have l3 : ((dg (a / m)).length ≤ n) = True := by simp; exact dg_len_le _ _ hS
    have hml : a % m < 2 ^ 32 := Nat.lt_trans (Nat.mod_lt _ hmp) hm
    have l4 := lit_one hml
    have l5 : a % m % 2 ^ 32 = a % m := Nat.mod_eq_of_lt hml
    obtain ⟨z, hz⟩ : ∃ z, z = a % m := ⟨_, rfl⟩
    rw [← hz] at l4 l5 ⊢
    simp only [num] at l4
    have l6 : noHp 8 (.vs 1 [.u 32 z]) = true := rfl
    simp only [EE,EX,Nat.reduceLeDiff,Nat.reduceEqDiff,Int.reduceEq,reduceCtorEq,Nat.reduceAdd,Nat.reduceMul,if_true,if_false,decide_true,decide_false, l1, l2, l3, l4, l5, l6, List.set_cons_zero]
  · have e0 : r n = 0 := by rw [hr, Nat.div_eq_of_lt hLa, Nat.zero_mod]
    have e1 : List.replicate n 0 = tb n (fun j => if n - 0 ≤ j then q j else 0) := by
      rw [tb_rep]; exact tb_congr fun j hj => by rw [if_neg (by omega)]
    have e2 : (n : Int) - 1 - ((0 : Nat) : Int) = (n : Int) - 1 := by omega
    rw [e1, e2, Nat.sub_zero, e0]
  · intro k hk
    obtain ⟨i, hi⟩ : ∃ i, i = n - 1 - k := ⟨_, rfl⟩
    have e1 : (n : Int) - 1 - (k : Int) = (i : Int) := by omega
    have e2 : (n : Int) - 1 - ((k + 1 : Nat) : Int) = (i : Int) - 1 := by omega
    have e3 : n - k = i + 1 := by omega
    have e4 : n - (k + 1) = i := by omega
    rw [e1, e2, e3, e4]
    have l1 : decide ((0 : Int) ≤ (i : Int)) = true := decide_eq_true (by omega)
    have l2 := ixOf_nat (show i < n by omega)
    have l3 := pa i (by omega)
    have l4 : p i % 2 ^ 64 = p i := Nat.mod_eq_of_lt (by have := hpl i; omega)
    have l5 : r (i + 1) * 2 ^ 32 % 2 ^ 64 = r (i + 1) * 4294967296 := sh32 (hrl _)
    have l6 : (r (i + 1) * 4294967296 ||| p i) = r (i + 1) * 4294967296 + p i := or_add32 (hpl i)
    have l7 : r (i + 1) * 4294967296 + p i = wvM a m i := by rw [hr, hp, wvM]
    have l8 : wvM a m i / m % 2 ^ 32 = q i := by rw [wv_divM hmp, hq, Nat.mod_mod]
    have l9 : wvM a m i % m = r i := by rw [wv_modM, hr]
    have l10 : F (w64 ((i : Int) - 1)) ((i : Int) - 1) := ⟨by unfold w64; omega⟩
    have l11 : (i + 1 ≤ n) = True := by simp; omega
    have l12 : tb n (fun j => if j = i then q i else if i + 1 ≤ j then q j else 0) = tb n (fun j => if i ≤ j then q j else 0) := tb_congr fun j hj => by
      by_cases h : j = i
      · rw [if_pos h, if_pos (by omega), h]
      · rw [if_neg h]
        by_cases h2 : i + 1 ≤ j
        · rw [if_pos h2, if_pos (by omega)]
        · rw [if_neg h2, if_neg (by omega)]
    rw [l7] at l6
    simp only [EE,EX,Nat.reduceLeDiff,Nat.reduceEqDiff,Int.reduceEq,reduceCtorEq,Nat.reduceAdd,Nat.reduceMul,if_true,if_false,decide_true,decide_false, kl, m32.eq, l1, l2, l3, l4, l5, l6, l8, l9, l10.eq, l11, l12, z0]
  · have e1 : (n : Int) - 1 - (n : Int) = -1 := by omega
    have l1 : decide ((0 : Int) ≤ -1) = false := by decide
    have l2 : tb n (fun j => if n - n ≤ j then q j else 0) = dl 32 n (a / m) := tb_congr fun j hj => by rw [if_pos (by omega), hq]
    have l3 : r (n - n) = a % m := by rw [hr, Nat.sub_self, Nat.mul_zero, Nat.pow_zero, Nat.div_one]
    rw [e1, l2, l3]
    simp only [EE,EX,Nat.reduceLeDiff,Nat.reduceEqDiff,Int.reduceEq,reduceCtorEq,Nat.reduceAdd,Nat.reduceMul,if_true,if_false,decide_true,decide_false, l1]

end Mir

namespace Mir

/-- A slice's first cells are a number's digits: what trim leaves of it. -/
theorem r_trimG {R : List V} {H : Heap} {j cap n x : Nat} (hr : row H j = some R) (hg : ∀ i, i < n → part R i none = some (.u 32 (x / 2 ^ (32 * i) % 2 ^ 32))) (hx : x < 2 ^ (32 * n))
    (hk : j < H.length) (hlow : H.all (lowR H.length) = true) (hn : n < 1000000000) (hc : n ≤ cap) :
    Run T f_curvetref1_trim [.hs 1 j 0 n cap] H = some (.hs 1 j 0 (dg x).length cap, H) := by
  rw [Run_at T _ (show T f_curvetref1_trim = some m_curvetref1_trim from rfl)]
  simp only [c_curvetref1_trim]
  obtain ⟨t, ht⟩ : ∃ t, t = (dg x).length := ⟨_, rfl⟩
  have htl : t ≤ n := by rw [ht]; exact dg_len_le _ _ hx
  have htx : x < 2 ^ (32 * t) := by rw [ht]; exact dg_len_lt x
  have h2 : (n < 9223372036854775808) = True := by simp; omega
  rw [← ht]
  simp only [EE,EX,Nat.reduceLeDiff,Nat.reduceEqDiff,Int.reduceEq,reduceCtorEq,Nat.reduceAdd,Nat.reduceMul,if_true,if_false,decide_true,decide_false, h2]
  rw [loop_use T (fun i => ⟨[(0, .hs 1 j 0 n cap), (3, .i ((n - i : Nat) : Int))], H⟩) (n - t) (.exit 0, ⟨[(0, .hs 1 j 0 n cap), (3, .i (t : Int))], H⟩) ?h0 (by simp) ?hs ?hn]
  · have g1 := ixOf_nat (show t < cap + 1 by omega)
    have g2 := ixOf_nat (show 0 < t + 1 by omega)
    have g3 : (j < H.length) = True := by simp [hk]
    simp only [EE,EX,Nat.reduceLeDiff,Nat.reduceEqDiff,Int.reduceEq,reduceCtorEq,Nat.reduceAdd,Nat.reduceMul,if_true,if_false,decide_true,decide_false, g1, List.take_length, hlow, g3, Nat.zero_mul, Nat.sub_zero]
  · rfl
  · intro i hi
    have g1 : ((0:Int) < ((n - i : Nat) : Int)) = True := by simp; omega
    have g2 : w64 (((n - i : Nat) : Int) - 1) = ((n - (i + 1) : Nat) : Int) := by unfold w64; omega
    have g3 := ixOf_nat (show n - (i + 1) < n by omega)
    have g4 := hg (n - (i + 1)) (by omega)
    rw [word_zero htx (by omega)] at g4
    simp only [EE,EX,Nat.reduceLeDiff,Nat.reduceEqDiff,Int.reduceEq,reduceCtorEq,Nat.reduceAdd,Nat.reduceMul,if_true,if_false,decide_true,decide_false, g1, g2, g3, g4, hr]
  · have e : n - (n - t) = t := by omega
    rw [e]
    rcases Nat.eq_zero_or_pos t with h0 | h0
    · have g1 : ((0:Int) < ((t : Nat) : Int)) = False := by simp; omega
      simp only [EE,EX,Nat.reduceLeDiff,Nat.reduceEqDiff,Int.reduceEq,reduceCtorEq,Nat.reduceAdd,Nat.reduceMul,if_true,if_false,decide_true,decide_false, g1]
    · have g1 : ((0:Int) < ((t : Nat) : Int)) = True := by simp; omega
      have g2 : w64 (((t : Nat) : Int) - 1) = ((t - 1 : Nat) : Int) := by unfold w64; omega
      have g3 := ixOf_nat (show t - 1 < n by omega)
      have g4 := hg (t - 1) (by omega)
      have hx0 : x ≠ 0 := by intro h; rw [h, dg_zero] at ht; simp at ht; omega
      obtain ⟨d1, d2, d3⟩ := dg_top hx0
      rw [← ht] at d1 d2
      have g5 : decide (x / 2 ^ (32 * (t - 1)) % 2 ^ 32 = 0) = false := decide_eq_false (by rw [d1]; exact d2)
      simp only [EE,EX,Nat.reduceLeDiff,Nat.reduceEqDiff,Int.reduceEq,reduceCtorEq,Nat.reduceAdd,Nat.reduceMul,if_true,if_false,decide_true,decide_false, g1, g2, g3, g4, g5, hr]

theorem r_digitH {R : List V} {H : Heap} {j cap n x : Nat} (hr : row H j = some R) (hg : ∀ i, i < n → part R i none = some (.u 32 (x / 2 ^ (32 * i) % 2 ^ 32))) (hx : x < 2 ^ (32 * n))
    (hlow : H.all (lowR H.length) = true) (hn : n < 1000000000) (i : Nat) (hi : i < 4611686018427387904) :
    Run T f_curvetref1_digit [.hs 1 j 0 n cap, .i i] H = some (.u 64 (x / 2 ^ (32 * i) % 2 ^ 32), H) := by
  rw [Run_at T _ (show T f_curvetref1_digit = some m_curvetref1_digit from rfl)]
  simp only [c_curvetref1_digit]
  have h2 : (n < 9223372036854775808) = True := by simp; omega
  by_cases hi2 : i < n
  · have h3 : ((i : Int) < (n : Int)) = True := by simp; omega
    have h4 := ixOf_nat hi2
    have h5 := hg i hi2
    have h6 : x / 2 ^ (32 * i) % 2 ^ 32 % 2 ^ 64 = x / 2 ^ (32 * i) % 2 ^ 32 := Nat.mod_eq_of_lt (Nat.lt_of_lt_of_le (Nat.mod_lt _ (by omega)) (by omega))
    simp only [EE,EX,Nat.reduceLeDiff,Nat.reduceEqDiff,Int.reduceEq,reduceCtorEq,Nat.reduceAdd,Nat.reduceMul,if_true,if_false,decide_true,decide_false, h2, h3, h4, h5, h6, hr, List.take_length, hlow]
  · have h3 : ((i : Int) < (n : Int)) = False := by simp; omega
    have h7 : x / 2 ^ (32 * i) % 2 ^ 32 = 0 := word_zero hx (by omega)
    simp only [EE,EX,Nat.reduceLeDiff,Nat.reduceEqDiff,Int.reduceEq,reduceCtorEq,Nat.reduceAdd,Nat.reduceMul,if_true,if_false,decide_true,decide_false, h2, h3, h7, List.take_length, hlow]

theorem r_refShrH {l0 gl : List Nat} {a k n cap : Nat} (hg : ∀ i, i < n → part (us 32 l0) i none = some (.u 32 (a / 2 ^ (32 * i) % 2 ^ 32))) (hLa : a < 2 ^ (32 * n)) (hn9 : n < 1000000000) (hk : k < 1000000000) :
    Run T f_curvetref1_Shr [.hs 1 0 0 n cap, .i (k : Int)] [some (us 32 l0), some (us 32 gl)] = some (num (a / 2 ^ k), [some (us 32 l0), some (us 32 gl)]) := by
  rw [Run_at T _ (show T f_curvetref1_Shr = some m_curvetref1_Shr from rfl)]
  simp only [c_curvetref1_Shr]
  obtain ⟨q, hq⟩ : ∃ q, q = k / 32 := ⟨_, rfl⟩
  obtain ⟨r, hr⟩ : ∃ r, r = k % 32 := ⟨_, rfl⟩
  have hk' : k = 32 * q + r := by omega
  have k1 : decide (n < 9223372036854775808) = true := by simp; omega
  have k2 : F (w64 (Int.tdiv (k : Int) 32)) (q : Int) := ⟨by rw [Int.tdiv_eq_ediv_of_nonneg (by omega)]; unfold w64; omega⟩
  have k3 : F (Int.tmod (k : Int) 32) (r : Int) := ⟨by rw [Int.tmod_eq_emod_of_nonneg (by omega)]; omega⟩
  have low2 : ∀ A B : List Nat, [some (us 32 A), some (us 32 B)].all (lowR 2) = true := fun A B => by simp [lowR, us_low]
  have low3 : ∀ A B C : List Nat, [some (us 32 A), some (us 32 B), some (us 32 C)].all (lowR 3) = true := fun A B C => by simp [lowR, us_low]
  have dga : ∀ (C : List Nat) (i : Nat), i < 4611686018427387904 → Run T f_curvetref1_digit [.hs 1 0 0 n cap, .i i] [some (us 32 l0), some (us 32 gl), some (us 32 C)] = some (.u 64 (a / 2 ^ (32 * i) % 2 ^ 32), [some (us 32 l0), some (us 32 gl), some (us 32 C)]) :=
    fun C i hi => r_digitH (H := [some (us 32 l0), some (us 32 gl), some (us 32 C)]) rfl hg hLa (low3 _ _ _) hn9 i hi
  by_cases hqn : n ≤ q
  · have k4 : decide ((n : Int) ≤ (q : Int)) = true := by simp; omega
    have hz : a / 2 ^ k = 0 := Nat.div_eq_of_lt (Nat.lt_of_lt_of_le hLa (Nat.pow_le_pow_right (by omega) (by omega)))
    have hv : ∀ (H : Heap) (b : Nat), fzV false H b 6 (.vs 0 []) = some (.vs 0 []) := fun H b => GF false H b 5 0 32 []
    rw [hz, num_zero]
    simp only [EE,EX,Nat.reduceLeDiff,Nat.reduceEqDiff,Int.reduceEq,reduceCtorEq,Nat.reduceAdd,Nat.reduceMul,if_true,if_false,decide_true,decide_false, k1, k2.eq, k4, hv, low2, List.take_succ_cons, List.take_nil]
  · have k4 : decide ((n : Int) ≤ (q : Int)) = false := by simp; omega
    obtain ⟨L, hL⟩ : ∃ z, z = n - q := ⟨_, rfl⟩
    have k5 : F (w64 ((n : Int) - (q : Int))) (L : Int) := ⟨by unfold w64; omega⟩
    have k6 := ixOf_nat (show L < 140737488355329 by omega)
    have k7 := ixOf_nat (show L < L + 1 by omega)
    have k8 : roomOk L 4 = true := by simp [roomOk]; omega
    have k9 : F (min r 64) r := ⟨by omega⟩
    have k10 : decide (L < 9223372036854775808) = true := by simp; omega
    obtain ⟨s, hs⟩ : ∃ s : Nat → Nat, ∀ i, s i = a / 2 ^ k / 2 ^ (32 * i) % 2 ^ 32 := ⟨_, fun _ => rfl⟩
    simp only [EE,EX,Nat.reduceLeDiff,Nat.reduceEqDiff,Int.reduceEq,reduceCtorEq,Nat.reduceAdd,Nat.reduceMul,if_true,if_false,decide_true,decide_false, k1, k2.eq, k4, k5.eq, k6, k7, k8, List.cons_append]
    rw [loop_use T (fun i => ⟨[(0, .hs 1 0 0 n cap), (1, .i (k : Int)), (5, .hs 1 2 0 L L), (6, .i (i : Int))], [some (us 32 l0), some (us 32 gl), some (us 32 (tb L fun j => if j < i then s j else 0))]⟩) L
      (.exit 0, ⟨[(5, .hs 1 2 0 L L)], [some (us 32 l0), some (us 32 gl), some (us 32 (dl 32 L (a / 2 ^ k)))]⟩) ?h0 (by simp) ?hs ?hn]
    · have hS : a / 2 ^ k < 2 ^ (32 * L) := by
        rw [Nat.div_lt_iff_lt_mul (Nat.two_pow_pos k), ← Nat.pow_add]
        exact Nat.lt_of_lt_of_le hLa (Nat.pow_le_pow_right (by omega) (by omega))
      have l1 := r_trimG (R := us 32 (dl 32 L (a / 2 ^ k))) (H := [some (us 32 l0), some (us 32 gl), some (us 32 (dl 32 L (a / 2 ^ k)))]) (j := 2) (cap := L) rfl (fun i hi => by rw [dl]; exact part_tb _ _ hi) hS (by simp) (low3 _ _ _) (by omega) (Nat.le_refl _)
      have l2 := take_dgD hS
      have l3 : ((dg (a / 2 ^ k)).length ≤ L) = True := by simp; exact dg_len_le _ _ hS
      have d22 : decide (2 < 2) = false := rfl
      simp only [EE,EX,Nat.reduceLeDiff,Nat.reduceEqDiff,Int.reduceEq,reduceCtorEq,Nat.reduceAdd,Nat.reduceMul,if_true,if_false,decide_true,decide_false, l1, l2, l3, low2, low3, d22, List.take_succ_cons, List.take_nil]
    · simp only [tb_rep]; rfl
    · intro i hi
      obtain ⟨j, hj⟩ : ∃ s, s = i + q := ⟨_, rfl⟩
      obtain ⟨j1, hj1⟩ : ∃ s1, s1 = i + q + 1 := ⟨_, rfl⟩
      have l1 : decide ((i : Int) < (L : Int)) = true := by simp; omega
      have l2 : F (w64 ((i : Int) + 1)) ((i + 1 : Nat) : Int) := ⟨by unfold w64; omega⟩
      have l3 : F (w64 ((i : Int) + (q : Int))) (j : Int) := ⟨by unfold w64; omega⟩
      have l4 : F (w64 ((j : Int) + 1)) (j1 : Int) := ⟨by unfold w64; omega⟩
      have l5 := dga (tb L fun j => if j < i then s j else 0) j (by omega)
      have l6 := dga (tb L fun j => if j < i then s j else 0) j1 (by omega)
      have l7 := ixOf_nat hi
      have l8 : (i + 1 ≤ L) = True := by simp; omega
      have l9 := tb_step (n := L) (i := i) s 0
      have l10 : (a / 2 ^ (32 * j) % 2 ^ 32 ||| a / 2 ^ (32 * j1) % 2 ^ 32 * 2 ^ 32 % 2 ^ 64) / 2 ^ r % 2 ^ 32 = s i := by
        rw [hs, hj1]
        exact shr32 hk' (by omega) hj
      obtain ⟨x1, hx1⟩ : ∃ x, a / 2 ^ (32 * j) % 2 ^ 32 = x := ⟨_, rfl⟩
      obtain ⟨x2, hx2⟩ : ∃ x, a / 2 ^ (32 * j1) % 2 ^ 32 = x := ⟨_, rfl⟩
      rw [hx1] at l5 l10
      rw [hx2] at l6 l10
      obtain ⟨x3, hx3⟩ : ∃ x, (x1 ||| x2 * 2 ^ 32 % 2 ^ 64) = x := ⟨_, rfl⟩
      rw [hx3] at l10
      obtain ⟨x4, hx4⟩ : ∃ x, x3 / 2 ^ r = x := ⟨_, rfl⟩
      rw [hx4] at l10
      have l11 : (x4 &&& 4294967295) % 2 ^ 32 = s i := by rw [and32p, l10]; exact Nat.mod_eq_of_lt (by rw [← l10]; exact Nat.mod_lt _ (Nat.two_pow_pos 32))
      have l12 : F (min 32 64) 32 := ⟨rfl⟩
      simp only [EE,EX,Nat.reduceLeDiff,Nat.reduceEqDiff,Int.reduceEq,reduceCtorEq,Nat.reduceAdd,Nat.reduceMul,if_true,if_false,decide_true,decide_false, k1, k2.eq, k3.eq, k9.eq, k10, l1, l2.eq, l3.eq, l4.eq, l5, l6, l7, l8, l9, hx3, hx4, l11, l12.eq]
    · have l1 : decide ((L : Int) < (L : Int)) = false := by simp
      have l2 : tb L (fun j => if j < L then s j else 0) = dl 32 L (a / 2 ^ k) := tb_congr fun j hj => by rw [if_pos hj, hs]
      simp only [EE,EX,Nat.reduceLeDiff,Nat.reduceEqDiff,Int.reduceEq,reduceCtorEq,Nat.reduceAdd,Nat.reduceMul,if_true,if_false,decide_true,decide_false, k10, l1, l2]

end Mir

namespace Mir

theorem cpy_num {L N : Nat} (h : (dg N).length ≤ L) (hL : L < 1000000000) :
    cpyO [some (us 32 (List.replicate L 0))] 1 (some (us 32 (dg N))) (some (dg N).length) (.hs 1 0 0 L L) = some (.i ((dg N).length : Int), [some (us 32 (dl 32 L N))]) := by
  have h1 : (dg N).length < 9223372036854775808 := by omega
  have h2 : min (dg N).length L = (dg N).length := Nat.min_eq_left h
  have h3 : us 32 (dg N) ++ List.drop (dg N).length (us 32 (List.replicate L 0)) = us 32 (dl 32 L N) := by
    rw [us_drop]
    show List.map _ _ ++ List.map _ _ = List.map _ _
    rw [← List.map_append]
    congr 1
    apply List.ext_getElem
    · simp [dl_len]; omega
    · intro k hk1 hk2
      rw [dl_len] at hk2
      have e2 : (dl 32 L N)[k] = N / 2 ^ (32 * k) % 2 ^ 32 := by simp [dl, tb]
      rw [e2]
      by_cases hk : k < (dg N).length
      · rw [List.getElem_append_left hk, ← dg_getD]; simp [hk]
      · rw [List.getElem_append_right (by omega)]
        have : N / 2 ^ (32 * k) % 2 ^ 32 = 0 := by rw [← dg_getD]; simp [Nat.not_lt.1 hk]
        rw [this]; simp
  simp only [cpyO, row, us_len, us_cellV, h1, h2, setRow]
  simp [h3, us_len]
  rw [List.take_of_length_le (by rw [us_len]; omega)]
  exact h3

/-- A number shifted up till its highest bit is a digit's highest. -/
theorem top_shift {m k s : Nat} (hk : k = (dg m).length) (h0 : m ≠ 0) (hs : s = 32 * k - bl m) :
    s < 32 ∧ 1 ≤ k ∧ bl m ≤ 32 * k ∧ k = (dg (m * 2 ^ s)).length ∧ 2147483648 ≤ m * 2 ^ s / 2 ^ (32 * (k - 1)) ∧ m * 2 ^ s < 2 ^ (32 * k) := by
  have h1 : m < 2 ^ (32 * k) := by rw [hk]; exact dg_len_lt m
  have h2 : bl m ≤ 32 * k := bl_le_iff.2 h1
  have h3 := dg_ge h0
  rw [← hk] at h3
  obtain ⟨_, _, h4⟩ := dg_top h0
  rw [← hk] at h4
  have h5 : 32 * (k - 1) < bl m := by
    rcases Nat.lt_or_ge (32 * (k - 1)) (bl m) with h | h
    · exact h
    · exact absurd (bl_le_iff.1 h) (by omega)
  have h6 := bl_lt m
  have h7 := bl_le h0
  have h8 : m * 2 ^ s < 2 ^ (32 * k) := by
    have : m * 2 ^ s < 2 ^ bl m * 2 ^ s := Nat.mul_lt_mul_of_pos_right h6 (Nat.two_pow_pos s)
    rw [← Nat.pow_add, show bl m + s = 32 * k by omega] at this
    exact this
  have h9 : 2 ^ (32 * k - 1) ≤ m * 2 ^ s := by
    have : 2 ^ (bl m - 1) * 2 ^ s ≤ m * 2 ^ s := Nat.mul_le_mul_right _ h7
    rw [← Nat.pow_add, show bl m - 1 + s = 32 * k - 1 by omega] at this
    exact this
  refine ⟨by omega, h4, h2, ?_, ?_, h8⟩
  · have a1 := dg_len_le _ _ h8
    have a2 := dg_len_lt (m * 2 ^ s)
    rcases Nat.lt_or_ge (dg (m * 2 ^ s)).length k with h | h
    · have : 2 ^ (32 * (dg (m * 2 ^ s)).length) ≤ 2 ^ (32 * k - 1) := Nat.pow_le_pow_right (by omega) (by omega)
      omega
    · omega
  · rw [Nat.le_div_iff_mul_le (Nat.two_pow_pos _), show 2147483648 = 2 ^ 31 by rfl, ← Nat.pow_add, show 31 + 32 * (k - 1) = 32 * k - 1 by omega]
    exact h9

theorem r_refDiv {a m : Nat} (ha : (dg a).length < 1000000) (hm : (dg m).length < 1000000) (h0 : m ≠ 0) : Run T f_curvetref1_Div [num a, num m] [] = some (.tup [num (a / m), num (a % m)], []) := by
  rw [Run_at T _ (show T f_curvetref1_Div = some m_curvetref1_Div from rfl)]
  simp only [c_curvetref1_Div]
  have hfa : Fit a := by unfold Fit; omega
  have hfm : Fit m := by unfold Fit; omega
  have c1 := r_refCmp hfa hfm
  have nha := num_noHp a 6
  have nhm := num_noHp m 6
  by_cases hlt : a < m
  · have c2 : cmpI a m = -1 := by unfold cmpI; rw [if_pos hlt]
    rw [c2] at c1
    have d1 : decide ((-1 : Int) < 0) = true := rfl
    have e1 : a / m = 0 := Nat.div_eq_of_lt hlt
    have e2 : a % m = a := Nat.mod_eq_of_lt hlt
    rw [e1, e2, num_zero]
    have hv : fzV false [] 0 5 (.vs 0 []) = some (.vs 0 []) := zm_nil false [] 0 4
    simp only [EE,EX,Nat.reduceLeDiff,Nat.reduceEqDiff,Int.reduceEq,reduceCtorEq,Nat.reduceAdd,Nat.reduceMul,if_true,if_false,decide_true,decide_false, c1, d1, nha, nhm, hv]
  · have hc3 : decide (cmpI a m < 0) = false := decide_eq_false (by unfold cmpI; rw [if_neg hlt]; split <;> omega)
    have hLa := dg_len_lt a
    obtain ⟨na, hna⟩ : ∃ n, n = (dg a).length := ⟨_, rfl⟩
    obtain ⟨k, hk⟩ : ∃ n, n = (dg m).length := ⟨_, rfl⟩
    rw [← hna] at ha hLa
    rw [← hk] at hm
    have kl : decide (k < 9223372036854775808) = true := decide_eq_true (by omega)
    have nl : decide (na < 9223372036854775808) = true := decide_eq_true (by omega)
    by_cases hk1 : k = 1
    · have d1 : decide ((k : Int) = 1) = true := decide_eq_true (by omega)
      have hml : m < 4294967296 := by have := dg_len_lt m; rw [← hk, hk1] at this; simpa using this
      have g1 : ixOf k (.i 0) = some 0 := ixOf_nat (show 0 < k by omega)
      have g2 := dg_part (x := m) (i := 0) (by omega)
      rw [Nat.mul_zero, Nat.pow_zero, Nat.div_one, Nat.mod_eq_of_lt (show m < 2 ^ 32 from hml)] at g2
      have g3 : m % 2 ^ 64 = m := Nat.mod_eq_of_lt (by omega)
      have g4 := r_short hfa hml h0
      simp only [num, ← hna, ← hk] at c1 nha nhm g4 ⊢
      simp only [EE,EX,Nat.reduceLeDiff,Nat.reduceEqDiff,Int.reduceEq,reduceCtorEq,Nat.reduceAdd,Nat.reduceMul,if_true,if_false,decide_true,decide_false, c1, hc3, nha, nhm, kl, d1, g1, g2, g3, g4]
    · have d1 : decide ((k : Int) = 1) = false := decide_eq_false (by omega)
      obtain ⟨s, hs⟩ : ∃ s, s = 32 * k - bl m := ⟨_, rfl⟩
      obtain ⟨s1, s2, s3, s4, s5, s6⟩ := top_shift hk h0 hs
      have c4 := r_Bits hfm
      have w1 : F (w64 (32 * (k : Int))) ((32 * k : Nat) : Int) := ⟨by unfold w64; omega⟩
      have w2 : F (w64 (((32 * k : Nat) : Int) - (bl m : Int))) (s : Int) := ⟨by rw [hs]; unfold w64; omega⟩
      have c5 := r_refShl hfm (k := s) (by omega)
      have c6 := r_refShl hfa (k := s) (by omega)
      obtain ⟨V, hV⟩ : ∃ V, V = m * 2 ^ s := ⟨_, rfl⟩
      obtain ⟨N, hN⟩ : ∃ N, N = a * 2 ^ s := ⟨_, rfl⟩
      have hVp : 0 < V := by rw [hV]; exact Nat.mul_pos (Nat.pos_of_ne_zero h0) (Nat.two_pow_pos s)
      have hQ : N / V = a / m := by rw [hN, hV, Nat.mul_div_mul_right _ _ (Nat.two_pow_pos s)]
      have hR : N % V / 2 ^ s = a % m := by rw [hN, hV, Nat.mul_mod_mul_right, Nat.mul_div_cancel _ (Nat.two_pow_pos s)]
      rw [← hV] at c5 s4 s5 s6
      rw [← hN] at c6
      obtain ⟨L, hL⟩ : ∃ L, L = na + 1 := ⟨_, rfl⟩
      have hkn : k ≤ na := by
        have h1 : a < 2 ^ (32 * na) := hLa
        have h2 := dg_len_le na m (by omega)
        omega
      obtain ⟨c, hc⟩ : ∃ c, c = L - k := ⟨_, rfl⟩
      have hNl : N < 2 ^ (32 * L) := by
        have h1 : N < 2 ^ (32 * na) * 2 ^ s := by rw [hN]; exact Nat.mul_lt_mul_of_pos_right hLa (Nat.two_pow_pos s)
        rw [← Nat.pow_add] at h1
        exact Nat.lt_of_lt_of_le h1 (Nat.pow_le_pow_right (by omega) (by omega))
      have cp := cpy_num (dg_len_le _ _ hNl) (show L < 1000000000 by omega)
      have htop : N / 2 ^ (32 * c) < V := by rw [hN]; exact top_smallM hLa s1 s2 s5 (by omega)
      have hQl : N / V < 2 ^ (32 * c) := by
        rw [Nat.div_lt_iff_lt_mul hVp]
        rw [Nat.div_lt_iff_lt_mul (Nat.two_pow_pos _)] at htop
        rw [Nat.mul_comm]; exact htop
      have w3 : F (w64 ((na : Int) + 1)) (L : Int) := ⟨by unfold w64; omega⟩
      have w4 : F (w64 ((L : Int) - (k : Int))) (c : Int) := ⟨by unfold w64; omega⟩
      have w5 : F (w64 ((c : Int) - 1)) ((c : Int) - 1) := ⟨by unfold w64; omega⟩
      have i1 := ixOf_nat (show L < 140737488355329 by omega)
      have i2 := ixOf_nat (show L < L + 1 by omega)
      have i3 : roomOk L 4 = true := by simp [roomOk]; omega
      have i4 := ixOf_nat (show c < 140737488355329 by omega)
      have i5 := ixOf_nat (show c < c + 1 by omega)
      have i6 : roomOk c 4 = true := by simp [roomOk]; omega
      have i7 : decide (L < 9223372036854775808) = true := decide_eq_true (by omega)
      obtain ⟨q, hq⟩ : ∃ q : Nat → Nat, ∀ j, q j = N / V / 2 ^ (32 * j) % 2 ^ 32 := ⟨_, fun _ => rfl⟩
      have hst : dl 32 L N = dl 32 L (stM N V (c - 0)) := by rw [Nat.sub_zero, stM_top htop]
      simp only [num, ← hna, ← hk, ← s4] at c1 c4 c5 c6 nha nhm ⊢
      have nhN : noHp 8 (.vs (dg N).length (us 32 (dg N))) = true := num_noHp N 6
      simp only [EE,EX,Nat.reduceLeDiff,Nat.reduceEqDiff,Int.reduceEq,reduceCtorEq,Nat.reduceAdd,Nat.reduceMul,if_true,if_false,decide_true,decide_false, c1, hc3, nha, nhm, kl, nl, d1, c4, w1.eq, w2.eq, c5, c6, w3.eq, w4.eq, w5.eq, i1, i2, i3, i4, i5, i6, i7, cp, List.cons_append]
      rw [loop_use T (fun t => ⟨[(6, .i (s : Int)), (7, .vs k (us 32 (dg V))), (8, .hs 1 0 0 L L), (9, .i (k : Int)), (10, .hs 1 1 0 c c), (11, .i ((c : Int) - 1 - (t : Int)))], [some (us 32 (dl 32 L (stM N V (c - t)))), some (us 32 (tb c fun j => if c - t ≤ j then q j else 0))]⟩) c
        (.exit 0, ⟨[(6, .i (s : Int)), (8, .hs 1 0 0 L L), (9, .i (k : Int)), (10, .hs 1 1 0 c c)], [some (us 32 (dl 32 L (N % V))), some (us 32 (dl 32 c (N / V)))]⟩) ?h0 (by simp) ?hs ?hn]
      rotate_left
      · have e1 : List.replicate c 0 = tb c (fun j => if c - 0 ≤ j then q j else 0) := by
          rw [tb_rep]; exact tb_congr fun j hj => by rw [if_neg (by omega)]
        have e2 : (c : Int) - 1 - ((0 : Nat) : Int) = (c : Int) - 1 := by omega
        rw [e1, e2, hst]
      · intro t ht
        obtain ⟨i, hi⟩ : ∃ i, i = c - 1 - t := ⟨_, rfl⟩
        have e1 : (c : Int) - 1 - (t : Int) = (i : Int) := by omega
        have e2 : (c : Int) - 1 - ((t + 1 : Nat) : Int) = (i : Int) - 1 := by omega
        have e3 : c - t = i + 1 := by omega
        have e4 : c - (t + 1) = i := by omega
        rw [e1, e2, e3, e4, stM_win, stM_next]
        have l1 : decide ((0 : Int) ≤ (i : Int)) = true := decide_eq_true (by omega)
        have l2 := ixOf_nat (show i < c by omega)
        have hlo : N % 2 ^ (32 * i) < 2 ^ (32 * i) := Nat.mod_lt _ (Nat.two_pow_pos _)
        have l3 := r_step (gl := tb c fun j => if i + 1 ≤ j then q j else 0) (L := L) (a := i) s4 (by omega) s5 hlo (wv_ltM (N := N) (a := i) hVp) (by omega) (by omega)
        simp only [num, ← s4] at l3
        have l4 : wvM N V i / V % 2 ^ 32 = q i := by rw [wv_divM hVp, hq, Nat.mod_mod]
        have l5 : F (w64 ((i : Int) - 1)) ((i : Int) - 1) := ⟨by unfold w64; omega⟩
        have l6 : (i + 1 ≤ c) = True := by simp; omega
        have l7 : tb c (fun j => if j = i then q i else if i + 1 ≤ j then q j else 0) = tb c (fun j => if i ≤ j then q j else 0) := tb_congr fun j hj => by
          by_cases h : j = i
          · rw [if_pos h, if_pos (by omega), h]
          · rw [if_neg h]
            by_cases h2 : i + 1 ≤ j
            · rw [if_pos h2, if_pos (by omega)]
            · rw [if_neg h2, if_neg (by omega)]
        obtain ⟨lo, hlo'⟩ : ∃ z, z = N % 2 ^ (32 * i) := ⟨_, rfl⟩
        obtain ⟨Wv, hWv⟩ : ∃ z, z = wvM N V i := ⟨_, rfl⟩
        rw [← hlo', ← hWv] at l3 ⊢
        rw [← hWv] at l4
        simp only [EE,EX,Nat.reduceLeDiff,Nat.reduceEqDiff,Int.reduceEq,reduceCtorEq,Nat.reduceAdd,Nat.reduceMul,if_true,if_false,decide_true,decide_false, l1, l2, l3, l4, l5.eq, l6, l7]
      · have e1 : (c : Int) - 1 - (c : Int) = -1 := by omega
        have l1 : decide ((0 : Int) ≤ -1) = false := by decide
        have l2 : tb c (fun j => if c - c ≤ j then q j else 0) = dl 32 c (N / V) := tb_congr fun j hj => by rw [if_pos (by omega), hq]
        rw [e1, l2, Nat.sub_self, stM_zero]
        simp only [EE,EX,Nat.reduceLeDiff,Nat.reduceEqDiff,Int.reduceEq,reduceCtorEq,Nat.reduceAdd,Nat.reduceMul,if_true,if_false,decide_true,decide_false, l1]
      have low2 : ∀ A B : List Nat, [some (us 32 A), some (us 32 B)].all (lowR 2) = true := fun A B => by simp [lowR, us_low]
      have hRl : N % V < 2 ^ (32 * k) := Nat.lt_trans (Nat.mod_lt _ hVp) s6
      have t1 := r_trimG (R := us 32 (dl 32 c (N / V))) (H := [some (us 32 (dl 32 L (N % V))), some (us 32 (dl 32 c (N / V)))]) (j := 1) (cap := c) rfl (fun i hi => by rw [dl]; exact part_tb _ _ hi) hQl (by simp) (low2 _ _) (by omega) (Nat.le_refl _)
      have t2 := r_trimG (R := us 32 (dl 32 L (N % V))) (H := [some (us 32 (dl 32 L (N % V))), some (us 32 (dl 32 c (N / V)))]) (j := 0) (cap := L) rfl (fun i (hi : i < k) => by rw [dl]; exact part_tb _ _ (by omega)) hRl (by simp) (low2 _ _) (by omega) (by omega)
      have hrl := dg_len_le _ _ hRl
      have t3 := r_refShrH (l0 := dl 32 L (N % V)) (gl := dl 32 c (N / V)) (a := N % V) (k := s) (n := (dg (N % V)).length) (cap := L) (fun i hi => by rw [dl]; exact part_tb _ _ (by omega)) (dg_len_lt _) (by omega) (by omega)
      rw [hR] at t3
      have t4 := take_dgD hQl
      have t5 : ((dg (N / V)).length ≤ c) = True := by simp; exact dg_len_le _ _ hQl
      have t6 := ixOf_nat (show k < L + 1 by omega)
      simp only [num] at t3
      rw [← hQ]
      simp only [EE,EX,Nat.reduceLeDiff,Nat.reduceEqDiff,Int.reduceEq,reduceCtorEq,Nat.reduceAdd,Nat.reduceMul,if_true,if_false,decide_true,decide_false, t1, t2, t3, t4, t5, t6, List.take_zero]

theorem r_refMod {a m : Nat} (ha : (dg a).length < 1000000) (hm : (dg m).length < 1000000) (h0 : m ≠ 0) : Run T f_curvetref1_Mod [num a, num m] [] = some (num (a % m), []) := by
  rw [Run_at T _ (show T f_curvetref1_Mod = some m_curvetref1_Mod from rfl)]
  simp only [c_curvetref1_Mod]
  have c1 := r_refDiv ha hm h0
  have nha := num_noHp a 6
  have nhm := num_noHp m 6
  simp only [EE,EX,Nat.reduceLeDiff,Nat.reduceEqDiff,Int.reduceEq,reduceCtorEq,Nat.reduceAdd,Nat.reduceMul,if_true,if_false,decide_true,decide_false, nha, nhm, c1]

end Mir

namespace Mir

theorem len_mul {a b n m : Nat} (ha : (dg a).length ≤ n) (hb : (dg b).length ≤ m) : (dg (a * b)).length ≤ n + m := by
  apply dg_len_le
  have h1 : a < 2 ^ (32 * n) := Nat.lt_of_lt_of_le (dg_len_lt a) (Nat.pow_le_pow_right (by omega) (by omega))
  have h2 : b < 2 ^ (32 * m) := Nat.lt_of_lt_of_le (dg_len_lt b) (Nat.pow_le_pow_right (by omega) (by omega))
  rw [Nat.mul_add, Nat.pow_add]
  exact Nat.mul_lt_mul'' h1 h2
theorem len_mono {a b : Nat} (h : a ≤ b) : (dg a).length ≤ (dg b).length := dg_len_le _ _ (Nat.lt_of_le_of_lt h (dg_len_lt b))

theorem r_refMulMod {a b m : Nat} (ha : (dg a).length < 400000) (hb : (dg b).length < 400000) (hm : (dg m).length < 400000) (h0 : m ≠ 0) : Run T f_curvetref1_MulMod [num a, num b, num m] [] = some (num (a * b % m), []) := by
  rw [Run_at T _ (show T f_curvetref1_MulMod = some m_curvetref1_MulMod from rfl)]
  simp only [c_curvetref1_MulMod]
  have c1 := r_refMul (x := a) (y := b) (by unfold Fit; omega) (by unfold Fit; omega)
  have hab := len_mul (Nat.le_refl (dg a).length) (Nat.le_refl (dg b).length)
  have c2 := r_refMod (a := a * b) (m := m) (by omega) (by omega) h0
  have n1 := num_noHp a 6
  have n2 := num_noHp b 6
  have n3 := num_noHp m 6
  have n4 := num_noHp (a * b) 6
  simp only [EE,EX,Nat.reduceLeDiff,Nat.reduceEqDiff,Int.reduceEq,reduceCtorEq,Nat.reduceAdd,Nat.reduceMul,if_true,if_false,decide_true,decide_false, n1, n2, n3, n4, c1, c2]

theorem r_refSubMod {a b m : Nat} (ha : (dg a).length < 400000) (hb : (dg b).length < 400000) (hm : (dg m).length < 400000) (hbm : b ≤ m) :
    Run T f_curvetref1_SubMod [num a, num b, num m] [] = some (num (if b ≤ a then a - b else a + m - b), []) := by
  rw [Run_at T _ (show T f_curvetref1_SubMod = some m_curvetref1_SubMod from rfl)]
  simp only [c_curvetref1_SubMod]
  have fa : Fit a := by unfold Fit; omega
  have fb : Fit b := by unfold Fit; omega
  have fm : Fit m := by unfold Fit; omega
  have c1 := r_refCmp fa fb
  have n1 := num_noHp a 6
  have n2 := num_noHp b 6
  have n3 := num_noHp m 6
  have n4 := num_noHp (a + m) 6
  by_cases h : b ≤ a
  · have d1 : decide (0 ≤ cmpI a b) = true := decide_eq_true (by unfold cmpI; rw [if_neg (by omega)]; split <;> omega)
    have c2 := r_refSub fa h
    rw [if_pos h]
    simp only [EE,EX,Nat.reduceLeDiff,Nat.reduceEqDiff,Int.reduceEq,reduceCtorEq,Nat.reduceAdd,Nat.reduceMul,if_true,if_false,decide_true,decide_false, n1, n2, n3, c1, c2, d1]
  · have d1 : decide (0 ≤ cmpI a b) = false := decide_eq_false (by unfold cmpI; rw [if_pos (by omega)]; omega)
    have c2 := r_Add fa fm
    have hl : (dg (a + m)).length ≤ (dg a).length + (dg m).length + 1 := by
      apply dg_len_le
      have h1 := dg_len_lt a
      have h2 := dg_len_lt m
      have h3 : 2 ^ (32 * (dg a).length) ≤ 2 ^ (32 * ((dg a).length + (dg m).length)) := Nat.pow_le_pow_right (by omega) (by omega)
      have h4 : 2 ^ (32 * (dg m).length) ≤ 2 ^ (32 * ((dg a).length + (dg m).length)) := Nat.pow_le_pow_right (by omega) (by omega)
      have h5 : 2 ^ (32 * ((dg a).length + (dg m).length + 1)) = 2 ^ (32 * ((dg a).length + (dg m).length)) * 4294967296 := by rw [Nat.mul_add 32 _ 1, Nat.pow_add]
      omega
    have c3 := r_refSub (a := a + m) (b := b) (by unfold Fit; omega) (by omega)
    rw [if_neg h]
    simp only [EE,EX,Nat.reduceLeDiff,Nat.reduceEqDiff,Int.reduceEq,reduceCtorEq,Nat.reduceAdd,Nat.reduceMul,if_true,if_false,decide_true,decide_false, n1, n2, n3, n4, c1, c2, c3, d1]

theorem num1_lit : V.vs 1 [.u 32 1] = num 1 := rfl

theorem r_refPowMod {a e m : Nat} (ha : (dg a).length < 400000) (he : (dg e).length < 400000) (hm : (dg m).length < 400000) (h0 : m ≠ 0) : Run T f_curvetref1_PowMod [num a, num e, num m] [] = some (num (a ^ e % m), []) := by
  rw [Run_at T _ (show T f_curvetref1_PowMod = some m_curvetref1_PowMod from rfl)]
  simp only [c_curvetref1_PowMod]
  have hmp : 0 < m := Nat.pos_of_ne_zero h0
  have k1 := r_refMod (a := 1) (m := m) (by decide) (by omega) h0
  have k2 := r_refMod (a := a) (m := m) (by omega) (by omega) h0
  have k3 : ∀ x y, x ≤ m → y ≤ m → _ := fun x y hx hy => r_refMulMod (a := x) (b := y) (m := m) (by have := len_mono hx; omega) (by have := len_mono hy; omega) hm h0
  have k4 := r_Bits (x := e) (by unfold Fit; omega)
  have hfe : Fit e := by unfold Fit; omega
  have hbl : bl e ≤ 32 * (dg e).length := bl_le_iff.2 (dg_len_lt e)
  have n1 := fun x => num_noHp x 6
  have hml : ∀ x, x % m ≤ m := fun x => Nat.le_of_lt (Nat.mod_lt _ hmp)
  obtain ⟨n, hn⟩ : ∃ n, n = bl e := ⟨_, rfl⟩
  rw [← hn] at k4 hbl
  have w1 : F (w64 ((n : Int) - 1)) ((n : Int) - 1) := ⟨by unfold w64; omega⟩
  have i1 : [V.u 32 0].set 0 (.u 32 1) = [.u 32 1] := rfl
  have i2 : noHp 8 (.vs 1 [.u 32 1]) = true := rfl
  rw [← num1_lit] at k1
  obtain ⟨nm, hnm⟩ : ∃ f : Nat → V, f = num := ⟨_, rfl⟩
  have e1 : ∀ x, evV (nm x) = nm x := fun x => by rw [hnm]; rfl
  have e3 : ∀ x, san (nm x) = nm x := fun x => by rw [hnm]; rfl
  have hfz : ∀ x, fzV false [] 0 6 (nm x) = some (nm x) := fun x => by rw [hnm]; exact GF false [] 0 5 _ 32 _
  have hnx : ∀ x, num x = nm x := fun x => by rw [hnm]
  have k5 : ∀ i, i < n → Run T f_curvetref1_Bit [nm e, .i (i : Int)] [] = some (.i ((e / 2 ^ i % 2 : Nat) : Int), []) := fun i hi => by rw [hnm]; exact r_refBit hfe (by omega)
  simp only [hnx] at k1 k2 k3 k4 n1 ⊢
  simp only [EE,EX,Nat.reduceLeDiff,Nat.reduceEqDiff,Int.reduceEq,reduceCtorEq,Nat.reduceAdd,Nat.reduceMul,if_true,if_false,decide_true,decide_false, n1, e1, e3, i1, i2, k1, k2, k4, w1.eq]
  rw [loop_use T (fun k => ⟨[(1, nm e), (2, nm m), (7, nm (a ^ (e / 2 ^ (n - k)) % m)), (8, nm (a % m)), (9, .i ((n : Int) - 1 - (k : Int)))], []⟩) n
    (.exit 0, ⟨[(7, nm (a ^ e % m))], []⟩) ?h0 (by simp) ?hs ?hn]
  · simp only [EE,EX,Nat.reduceLeDiff,Nat.reduceEqDiff,Int.reduceEq,reduceCtorEq,Nat.reduceAdd,Nat.reduceMul,if_true,if_false,decide_true,decide_false, e1, e3, hfz]
  · have e1 : (n : Int) - 1 - ((0 : Nat) : Int) = (n : Int) - 1 := by omega
    rw [e1, Nat.sub_zero, hn, pow_top, Nat.pow_zero]
  · intro k hk
    obtain ⟨i, hi⟩ : ∃ i, i = n - 1 - k := ⟨_, rfl⟩
    have g1 : (n : Int) - 1 - (k : Int) = (i : Int) := by omega
    have g2 : (n : Int) - 1 - ((k + 1 : Nat) : Int) = (i : Int) - 1 := by omega
    have g3 : n - k = i + 1 := by omega
    have g4 : n - (k + 1) = i := by omega
    rw [g1, g2, g3, g4]
    have c1 : decide ((0 : Int) ≤ (i : Int)) = true := decide_eq_true (by omega)
    have w2 : F (w64 ((i : Int) - 1)) ((i : Int) - 1) := ⟨by unfold w64; omega⟩
    have b1 := k5 i (by omega)
    have b2 := k3 (a ^ (e / 2 ^ (i + 1)) % m) (a ^ (e / 2 ^ (i + 1)) % m) (hml _) (hml _)
    rw [pow_sq] at b2
    have b3 := k3 (a ^ (2 * (e / 2 ^ (i + 1))) % m) (a % m) (hml _) (hml _)
    rw [Nat.mul_mod_mod] at b3
    have b4 := pow_even (a := a) (e := e) (m := m) (k := i)
    have b5 := pow_odd (a := a) (e := e) (m := m) (k := i)
    obtain ⟨b, hb⟩ : ∃ b, b = e / 2 ^ i % 2 := ⟨_, rfl⟩
    have hb2 : b = 0 ∨ b = 1 := by omega
    rw [← hb] at b1 b4 b5
    obtain ⟨x, hx⟩ : ∃ x, x = a ^ (e / 2 ^ (i + 1)) % m := ⟨_, rfl⟩
    obtain ⟨y, hy⟩ : ∃ y, y = a ^ (2 * (e / 2 ^ (i + 1))) % m := ⟨_, rfl⟩
    obtain ⟨z, hz⟩ : ∃ z, z = a ^ (e / 2 ^ i) % m := ⟨_, rfl⟩
    obtain ⟨am, ham⟩ : ∃ z, z = a % m := ⟨_, rfl⟩
    rw [← hx, ← hy] at b2
    rw [← hy, ← ham] at b3
    rw [← hy, ← hz] at b4 b5
    rw [← hx, ← hz, ← ham]
    rcases hb2 with h | h
    · have c2 : decide ((b : Int) = 1) = false := decide_eq_false (by omega)
      have b6 := b4 h
      simp only [EE,EX,Nat.reduceLeDiff,Nat.reduceEqDiff,Int.reduceEq,reduceCtorEq,Nat.reduceAdd,Nat.reduceMul,if_true,if_false,decide_true,decide_false, n1, e1, e3, c1, c2, w2.eq, b1, b2, b6]
    · have c2 : decide ((b : Int) = 1) = true := decide_eq_true (by omega)
      have b6 := b5 h
      rw [b6] at b3
      simp only [EE,EX,Nat.reduceLeDiff,Nat.reduceEqDiff,Int.reduceEq,reduceCtorEq,Nat.reduceAdd,Nat.reduceMul,if_true,if_false,decide_true,decide_false, n1, e1, e3, c1, c2, w2.eq, b1, b2, b3]
  · have g1 : (n : Int) - 1 - (n : Int) = -1 := by omega
    have c1 : decide ((0 : Int) ≤ -1) = false := by decide
    rw [g1, Nat.sub_self, Nat.pow_zero, Nat.div_one]
    simp only [EE,EX,Nat.reduceLeDiff,Nat.reduceEqDiff,Int.reduceEq,reduceCtorEq,Nat.reduceAdd,Nat.reduceMul,if_true,if_false,decide_true,decide_false, c1, e1, e3]

end Mir

namespace Mir

theorem row_end (H : Heap) (l : List V) : row (H ++ [some l]) H.length = some l := by simp [row]
theorem row_end2 (H : Heap) (l : List V) : row (H ++ [none, some l]) (H.length + 1) = some l := by simp [row]
theorem app_new (H : Heap) (x : Nat) (h : (dg x).length < 1000000000) :
    appO (H ++ [some []]) 1 4 (some (us 32 (dg x))) (some (dg x).length) (.hs 1 H.length 0 0 0) = some (.hs 1 (H.length + 1) 0 (dg x).length (dg x).length, H ++ [none, some (us 32 (dg x))]) := by
  have h1 : roomOk (dg x).length 4 = true := by simp [roomOk]; omega
  simp only [appO, row_end]
  rw [if_pos ⟨trivial, by simp, by simpa using h1, by rw [us_len, Nat.mul_one], us_cellV 32 _⟩]
  simp
theorem frz_new (H : Heap) (x : Nat) : frzO (H ++ [none, some (us 32 (dg x))]) (.hs 1 (H.length + 1) 0 (dg x).length (dg x).length) = some (.vs (dg x).length (us 32 (dg x)), H ++ [none, none]) := by
  simp only [frzO, row_end2, Gi]
  simp [frT]
theorem app_new0 (x : Nat) (h : (dg x).length < 1000000000) :
    appO [some []] 1 4 (some (us 32 (dg x))) (some (dg x).length) (.hs 1 0 0 0 0) = some (.hs 1 1 0 (dg x).length (dg x).length, [none, some (us 32 (dg x))]) := app_new [] x h
theorem frz_new0 (x : Nat) : frzO [none, some (us 32 (dg x))] (.hs 1 1 0 (dg x).length (dg x).length) = some (.vs (dg x).length (us 32 (dg x)), [none, none]) := frz_new [] x

def nnH : Nat → Heap
  | 0 => [none, none]
  | i + 1 => nnH i ++ [none, none]

theorem cmp1 {x : Nat} : cmpI x 1 ≤ 0 ↔ x ≤ 1 := by
  unfold cmpI
  split
  · constructor <;> intro _ <;> omega
  · split
    · constructor <;> intro _ <;> omega
    · constructor <;> intro _ <;> omega
theorem cmp1' {x : Nat} : cmpI x 1 = 0 ↔ x = 1 := by
  unfold cmpI
  split
  · constructor <;> intro _ <;> omega
  · split
    · constructor <;> intro _ <;> omega
    · constructor <;> intro _ <;> omega

theorem r_refInverseRun {a m n : Nat} (ha : (dg a).length < 100000) (hm : (dg m).length < 100000) (h1 : 1 < m) {u : Nat → Eu} (hu : u = euAt m ⟨m, a % m, 0, 1⟩) (hw : ∀ i, i < n → (u i).w ≠ 0) (hn : (u n).w = 0) (hok : ∀ i, i ≤ n → EuOk a m (u i)) :
    Run T f_curvetref1_Inverse [num a, num m] [] = some (if (u n).o ≠ 1 then .tup [num 0, .b false] else .tup [num (u n).s, .b true], []) := by
  rw [Run_at T _ (show T f_curvetref1_Inverse = some m_curvetref1_Inverse from rfl)]
  simp only [c_curvetref1_Inverse]
  have fm : Fit m := by unfold Fit; omega
  have h0 : m ≠ 0 := by omega
  have hmp : 0 < m := by omega
  have c1 := r_refCmp fm (b := 1) (by unfold Fit; decide)
  have d1 : decide (cmpI m 1 ≤ 0) = false := decide_eq_false (by rw [cmp1]; omega)
  have c2 := r_refMod (a := a) (m := m) (by omega) (by omega) h0
  have i1 : [V.u 32 0].set 0 (.u 32 1) = [.u 32 1] := rfl
  have i2 : noHp 8 (.vs 1 [.u 32 1]) = true := rfl
  have l0 := app_new0 m (by omega)
  have l1 := frz_new0 m
  have n1 := fun x => num_noHp x 6
  have u0 : u 0 = ⟨m, a % m, 0, 1⟩ := by rw [hu]; rfl
  have us' : ∀ i, u (i + 1) = euStep m (u i) := fun i => by rw [hu]; rfl
  have lenM : ∀ x, x ≤ m → (dg x).length < 100000 := fun x hx => Nat.lt_of_le_of_lt (len_mono hx) hm
  rw [← num1_lit] at c1
  obtain ⟨am, ham⟩ : ∃ z, z = a % m := ⟨_, rfl⟩
  rw [← ham] at c2 u0
  have hz : V.vs 0 [] = num 0 := num_zero.symm
  simp only [EE,EX,Nat.reduceLeDiff,Nat.reduceEqDiff,Int.reduceEq,reduceCtorEq,Nat.reduceAdd,Nat.reduceMul,if_true,if_false,decide_true,decide_false, n1, i1, i2, c1, d1, c2, l0, l1]
  rw [hz, num1_lit]
  rw [loop_use T (fun i => ⟨[(1, num m), (6, num (u i).o), (7, num (u i).w), (8, num (u i).s), (9, num (u i).t)], nnH i⟩) n
    (.exit 0, ⟨[(6, num (u n).o), (8, num (u n).s)], nnH n⟩) ?h0 (by simp) ?hs ?hn]
  · obtain ⟨o, ho⟩ : ∃ o, (u n).o = o := ⟨_, rfl⟩
    obtain ⟨x, hx⟩ : ∃ o, (u n).s = o := ⟨_, rfl⟩
    have hoM : o ≤ m := by rw [← ho]; exact (hok n (Nat.le_refl n)).o
    obtain ⟨hh, hhe⟩ : ∃ h, h = nnH n := ⟨_, rfl⟩
    rw [ho, hx, ← hhe]
    have c3 := r_refCmp (a := o) (b := 1) (by have := lenM o hoM; unfold Fit; omega) (by unfold Fit; decide)
    rw [← num1_lit] at c3
    have hfz : ∀ x, fzV false hh 0 5 (num x) = some (num x) := fun x => GF false hh 0 4 _ 32 _
    rw [num_zero] at *
    have hv : fzV false hh 0 5 (.vs 0 []) = some (.vs 0 []) := zm_nil false hh 0 4
    by_cases ho1 : o = 1
    · have d2 : decide (cmpI o 1 = 0) = true := decide_eq_true (cmp1'.2 ho1)
      rw [if_neg (by omega)]
      simp only [EE,EX,Nat.reduceLeDiff,Nat.reduceEqDiff,Int.reduceEq,reduceCtorEq,Nat.reduceAdd,Nat.reduceMul,if_true,if_false,decide_true,decide_false, n1, i1, i2, c3, d2, hfz, Bool.not_true, Bool.not_false]
    · have d2 : decide (cmpI o 1 = 0) = false := decide_eq_false (by rw [cmp1']; exact ho1)
      rw [if_pos (by omega)]
      simp only [EE,EX,Nat.reduceLeDiff,Nat.reduceEqDiff,Int.reduceEq,reduceCtorEq,Nat.reduceAdd,Nat.reduceMul,if_true,if_false,decide_true,decide_false, n1, i1, i2, c3, d2, hv, Bool.not_true, Bool.not_false]
  · rw [u0]; rfl
  · intro i hi
    have hk := hok i (by omega)
    have hw' := hw i hi
    obtain ⟨v, hv⟩ : ∃ v, v = u i := ⟨_, rfl⟩
    rw [us' i, ← hv]
    rw [← hv] at hk hw'
    have e1 : (euStep m v).o = v.w := rfl
    have e2 : (euStep m v).w = v.o % v.w := rfl
    have e3 : (euStep m v).s = v.t := rfl
    have e4 : (euStep m v).t = euNext m v := rfl
    have e5 : nnH (i + 1) = nnH i ++ [none, none] := rfl
    rw [e1, e2, e3, e4, e5]
    obtain ⟨hh, hhe⟩ : ∃ h, h = nnH i := ⟨_, rfl⟩
    rw [← hhe]
    have hwl := lenM v.w (Nat.le_of_lt hk.w)
    have hol := lenM v.o hk.o
    have hsl := lenM v.s (Nat.le_of_lt hk.s)
    have htl := lenM v.t (Nat.le_of_lt hk.t)
    have c3 := r_refDiv (a := v.o) (m := v.w) (by omega) (by omega) hw'
    have hql := lenM (v.o / v.w) (Nat.le_trans (Nat.div_le_self _ _) hk.o)
    have c4 := r_refMod (a := v.o / v.w) (m := m) (by omega) (by omega) h0
    have c5 := r_refMulMod (a := v.o / v.w % m) (b := v.t) (m := m) (by have := lenM (v.o / v.w % m) (Nat.le_of_lt (Nat.mod_lt _ hmp)); omega) (by omega) (by omega) h0
    rw [Nat.mod_mul_mod] at c5
    have hle : v.o / v.w * v.t % m = euLess m v := rfl
    rw [hle] at c5
    have hlm : euLess m v < m := Nat.mod_lt _ hmp
    have c6 := r_refSubMod (a := v.s) (b := euLess m v) (m := m) (by omega) (by have := lenM _ (Nat.le_of_lt hlm); omega) (by omega) (Nat.le_of_lt hlm)
    have e6 : (if euLess m v ≤ v.s then v.s - euLess m v else v.s + m - euLess m v) = euNext m v := by
      unfold euNext
      by_cases h : v.s < euLess m v
      · rw [if_pos h, if_neg (by omega)]
      · rw [if_neg h, if_pos (by omega)]
    rw [e6] at c6
    have hrl := lenM (v.o % v.w) (by have := Nat.mod_lt v.o (Nat.pos_of_ne_zero hw'); have := hk.w; omega)
    have a1 := app_new hh (v.o % v.w) (by omega)
    have a2 := frz_new hh (v.o % v.w)
    have hwp : 0 < (dg v.w).length := by rw [dg_pos hw']; simp
    have d3 : decide (0 < ((dg v.w).length : Int)) = true := decide_eq_true (by omega)
    have d4 : decide ((dg v.w).length < 9223372036854775808) = true := decide_eq_true (by omega)
    obtain ⟨q, hq⟩ : ∃ z, z = v.o / v.w := ⟨_, rfl⟩
    obtain ⟨rr, hrr⟩ : ∃ z, z = v.o % v.w := ⟨_, rfl⟩
    obtain ⟨qm, hqm⟩ : ∃ z, z = v.o / v.w % m := ⟨_, rfl⟩
    obtain ⟨le, hle'⟩ : ∃ z, z = euLess m v := ⟨_, rfl⟩
    obtain ⟨nx, hnx⟩ : ∃ z, z = euNext m v := ⟨_, rfl⟩
    rw [← hqm] at c4 c5
    rw [← hle'] at c5 c6
    rw [← hnx] at c6 ⊢
    rw [← hq] at c3 c4
    rw [← hrr] at c3 a1 a2 ⊢
    obtain ⟨vo, hvo⟩ : ∃ z, z = v.o := ⟨_, rfl⟩
    obtain ⟨vw, hvw⟩ : ∃ z, z = v.w := ⟨_, rfl⟩
    obtain ⟨vs, hvs⟩ : ∃ z, z = v.s := ⟨_, rfl⟩
    obtain ⟨vt, hvt⟩ : ∃ z, z = v.t := ⟨_, rfl⟩
    rw [← hvw] at c3 d3 d4
    rw [← hvo] at c3
    rw [← hvt] at c5
    rw [← hvs] at c6
    rw [← hvo, ← hvw, ← hvs, ← hvt]
    simp only [EE,EX,Nat.reduceLeDiff,Nat.reduceEqDiff,Int.reduceEq,reduceCtorEq,Nat.reduceAdd,Nat.reduceMul,if_true,if_false,decide_true,decide_false, n1, d3, d4, c3, c4, c5, c6, a1, a2]
  · rw [hn]
    have d3 : decide (0 < ((dg 0).length : Int)) = false := rfl
    have d4 : decide ((dg 0).length < 9223372036854775808) = true := rfl
    simp only [EE,EX,Nat.reduceLeDiff,Nat.reduceEqDiff,Int.reduceEq,reduceCtorEq,Nat.reduceAdd,Nat.reduceMul,if_true,if_false,decide_true,decide_false, d3, d4]

/-- A number that has an inverse: what is given back. -/
theorem r_refInverse {a m : Nat} (ha : (dg a).length < 100000) (hm : (dg m).length < 100000) (h1 : 1 < m) (hg : Nat.gcd m a = 1) : ∃ i, i < m ∧ i * a % m = 1 ∧ Run T f_curvetref1_Inverse [num a, num m] [] = some (.tup [num i, .b true], []) := by
  have hmp : 0 < m := by omega
  have e0 : EuOk a m ⟨m, a % m, 0, 1⟩ := ⟨by simp only; omega, by simp only; omega, by simp only; omega, Nat.mod_lt _ hmp, by simp, by simp, by rw [Nat.gcd_comm]; exact (Nat.gcd_rec m a).symm⟩
  obtain ⟨n, hw, hn⟩ := eu_stop m (a % m) ⟨m, a % m, 0, 1⟩ (Nat.le_refl _)
  have hok := eu_ok e0 hw
  have he := hok n (Nat.le_refl n)
  have ho : (euAt m ⟨m, a % m, 0, 1⟩ n).o = 1 := by
    have := he.g
    rw [hn, Nat.gcd_zero_right, hg] at this
    exact this
  refine ⟨_, he.s, ?_, ?_⟩
  · rw [he.ws, ho]; exact Nat.mod_eq_of_lt (by omega)
  · rw [r_refInverseRun ha hm h1 rfl hw hn hok, if_neg (by omega)]
end Mir

namespace Mir

theorem MM36 : M * M = 2 ^ (32 * 36) := by unfold M; rw [← Nat.pow_add]
theorem r_refOf {x : Nat} (hx : x < M * M) : Run T f_curvetref1_Of [widev x] [] = some (num x, []) := by
  rw [Run_at T _ (show T f_curvetref1_Of = some m_curvetref1_Of from rfl)]
  simp only [c_curvetref1_Of]
  rw [MM36] at hx
  have m1 : ixOf 140737488355329 (.i 36) = some 36 := by simp [ixOf]
  have m2 : ixOf (36 + 1) (.i 36) = some 36 := by simp [ixOf]
  have m3 : roomOk 36 4 = true := by decide
  simp only [EE,EX,Nat.reduceLeDiff,Nat.reduceEqDiff,Int.reduceEq,reduceCtorEq,Nat.reduceAdd,Nat.reduceMul,if_true,if_false,decide_true,decide_false, m1, m2, m3]
  rw [loop_use T (fun i => ⟨[(1, .vr (us 64 (dl 64 18 x)) 0), (3, .hs 1 0 0 36 36), (4, .i (i : Int))], [some (us 32 (tb 36 fun j => if j < 2 * i then x / 2 ^ (32 * j) % 2 ^ 32 else 0))]⟩) 18
    (.exit 0, ⟨[(3, .hs 1 0 0 36 36)], [some (us 32 (dl 32 36 x))]⟩) ?h0 (by simp) ?hs ?hn]
  · have t1 := r_trim (l := dl 32 36 x) (H := [some (us 32 (dl 32 36 x))]) (k := 0) (cap := 36) rfl (by simp) (by simp [lowR, us_low]) (by simp [dl_len]) (by simp [dl_len])
    rw [dl_len, tl_dl hx] at t1
    have h2 : ((dg x).length ≤ 36) = True := by simp; exact dg_len_le 36 x hx
    have h3 : (dl 32 36 x).take (dg x).length = dg x := by rw [← tl_dl hx, take_dl hx]
    simp only [EE,EX,Nat.reduceLeDiff,Nat.reduceEqDiff,Int.reduceEq,reduceCtorEq,Nat.reduceAdd,Nat.reduceMul,if_true,if_false,decide_true,decide_false, t1, dl_len, h2, h3]
  · simp only [tb_rep]; rfl
  · intro i hi
    have g1 : ((i : Int) < 18) = True := by simp; omega
    have g2 : w64 (2 * (i : Int)) = ((2 * i : Nat) : Int) := by unfold w64; omega
    have g3 : w64 (((2 * i : Nat) : Int) + 1) = ((2 * i + 1 : Nat) : Int) := by unfold w64; omega
    have g4 : w64 ((i : Int) + 1) = ((i + 1 : Nat) : Int) := by unfold w64; omega
    have g5 := ixOf_nat (show i < 18 by omega)
    have g6 := ixOf_nat (show 2 * i < 36 by omega)
    have g7 := ixOf_nat (show 2 * i + 1 < 36 by omega)
    have g8 := dl_partL (L := 18) (x := x) hi
    have g9 : (2 * i + 1 ≤ 36) = True := by simp; omega
    have g10 : (2 * i + 1 + 1 ≤ 36) = True := by simp; omega
    simp only [EE,EX,Nat.reduceLeDiff,Nat.reduceEqDiff,Int.reduceEq,reduceCtorEq,Nat.reduceAdd,Nat.reduceMul,if_true,if_false,decide_true,decide_false, g1, g2, g3, g4, g5, g6, g7, g8, g9, g10]
    refine st_us (tb_congr fun j hj => ?_)
    by_cases h1 : j = 2 * i + 1
    · rw [if_pos h1, if_pos (by omega), h1, ← hi32]
      rfl
    · rw [if_neg h1]
      by_cases h2 : j = 2 * i
      · rw [if_pos h2, if_pos (by omega), and32, h2, ← lo32]
        omega
      · rw [if_neg h2]
        by_cases h3 : j < 2 * i
        · rw [if_pos h3, if_pos (by omega)]
        · rw [if_neg h3, if_neg (by omega)]
  · have g1 : (((18:Nat) : Int) < 18) = False := by simp
    simp only [EE,EX,Nat.reduceLeDiff,Nat.reduceEqDiff,Int.reduceEq,reduceCtorEq,Nat.reduceAdd,Nat.reduceMul,if_true,if_false,decide_true,decide_false, g1]
    exact st_us (tb_congr fun j hj => if_pos hj)

end Mir

