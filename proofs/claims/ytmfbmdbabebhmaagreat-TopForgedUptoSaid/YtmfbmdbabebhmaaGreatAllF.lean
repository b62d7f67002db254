/- One module of several texts (Pri PriB PriC Shk FieA FieB FieC FieD FieE FieF FieG FieH). Conditions: none. -/
import Derived.KernelRfl
import Derived.Test.YtmfbmdbabebhmaaGreatAllD
import Derived.Test.YtmfbmdbabebhmaaGreatAllN
import Derived.Test.YtmfbmdbabebhmaaGreatAllR
import Derived.Test.YtmfbmdbabebhmaaGreatAllE
set_option linter.unusedVariables false
set_option linter.unusedSectionVars false
set_option linter.unusedSimpArgs false
set_option exponentiation.threshold 5000
set_option maxRecDepth 100000
set_option maxRecDepth 20000
set_option maxHeartbeats 1000000
namespace Mir

def Pr (p : Nat) : Prop := 2 ≤ p ∧ ∀ d, d ∣ p → d = 1 ∨ d = p

theorem Pr.two {p : Nat} (h : Pr p) : 2 ≤ p := h.1
theorem Pr.gcd {p a : Nat} (h : Pr p) (ha : ¬ p ∣ a) : Nat.gcd p a = 1 := by
  rcases h.2 _ (Nat.gcd_dvd_left p a) with h1 | h1
  · exact h1
  · exact absurd (h1 ▸ Nat.gcd_dvd_right p a) ha
theorem Pr.euclid {p a b : Nat} (h : Pr p) (hab : p ∣ a * b) : p ∣ a ∨ p ∣ b := by
  by_cases ha : p ∣ a
  · exact .inl ha
  · exact .inr (Nat.Coprime.dvd_of_dvd_mul_left (h.gcd ha) hab)
theorem Pr.mod_ne {p a : Nat} (h : Pr p) (h0 : 0 < a) (ha : a < p) : ¬ p ∣ a := fun hd => by
  have := Nat.le_of_dvd h0 hd
  omega

/-- Each number from 2 on has a prime that divides it, whose square is not greater unless the number is prime. -/
theorem exists_prime : ∀ (n m : Nat), m ≤ n → 2 ≤ m → ∃ p, Pr p ∧ p ∣ m := by
  intro n
  induction n with
  | zero => intro m h1 h2; omega
  | succ n ih =>
    intro m h1 h2
    by_cases h : Pr m
    · exact ⟨m, h, Nat.dvd_refl m⟩
    · obtain ⟨d, hd, hd1, hd2⟩ : ∃ d, d ∣ m ∧ d ≠ 1 ∧ d ≠ m := by
        apply Classical.byContradiction
        intro hn
        exact h ⟨h2, fun d hd => Classical.byContradiction fun hh => hn ⟨d, hd, fun e => hh (.inl e), fun e => hh (.inr e)⟩⟩
      have hle := Nat.le_of_dvd (by omega) hd
      have h0 : d ≠ 0 := fun e => by subst e; have := Nat.eq_zero_of_zero_dvd hd; omega
      obtain ⟨p, hp, hpd⟩ := ih d (by omega) (by omega)
      exact ⟨p, hp, Nat.dvd_trans hpd hd⟩
theorem prime_of {N : Nat} (h2 : 2 ≤ N) (h : ∀ r, Pr r → r ∣ N → N < r * r) : Pr N := by
  refine ⟨h2, fun d hd => Classical.byContradiction fun hn => ?_⟩
  obtain ⟨e, he⟩ := hd
  have hd1 : d ≠ 1 := fun h => hn (.inl h)
  have hdN : d ≠ N := fun h => hn (.inr h)
  have hd0 : d ≠ 0 := fun h => by rw [h, Nat.zero_mul] at he; omega
  have he1 : e ≠ 1 := fun h => by rw [h, Nat.mul_one] at he; exact hdN he.symm
  have he0 : e ≠ 0 := fun h => by rw [h, Nat.mul_zero] at he; omega
  obtain ⟨p, hp, hpd⟩ := exists_prime d d (Nat.le_refl _) (by omega)
  obtain ⟨q, hq, hqe⟩ := exists_prime e e (Nat.le_refl _) (by omega)
  have h1 := h p hp (Nat.dvd_trans hpd ⟨e, he⟩)
  have h2 := h q hq (Nat.dvd_trans hqe ⟨d, by rw [Nat.mul_comm]; exact he⟩)
  have h3 := Nat.le_of_dvd (by omega) hpd
  have h4 := Nat.le_of_dvd (by omega) hqe
  have h5 : p * q ≤ N := by rw [he]; exact Nat.mul_le_mul h3 h4
  rcases Nat.le_total p q with h6 | h6
  · have := Nat.mul_le_mul_left p h6; omega
  · have := Nat.mul_le_mul_right q h6; omega

/- ## Pigeonholes, permutations -/

theorem nodup_len : ∀ (m : Nat) (l : List Nat), l.Nodup → (∀ x ∈ l, x < m) → l.length ≤ m := by
  intro m
  induction m with
  | zero =>
    intro l _ h
    cases l with
    | nil => exact Nat.le_refl 0
    | cons x l => exact absurd (h x (by simp)) (by omega)
  | succ m ih =>
    intro l hn h
    have h1 : (l.erase m).Nodup := hn.erase m
    have h2 : ∀ x ∈ l.erase m, x < m := fun x hx => by
      have h3 := h x (List.mem_of_mem_erase hx)
      have h4 : x ≠ m := fun e => by
        subst e
        exact (List.Nodup.mem_erase_iff hn).1 hx |>.1 rfl
      omega
    have h3 := ih _ h1 h2
    by_cases hm : m ∈ l
    · rw [List.length_erase_of_mem hm] at h3; omega
    · rw [List.erase_of_not_mem hm] at h3; omega

def prodL : List Nat → Nat
  | [] => 1
  | x :: l => x * prodL l
theorem prodL_perm {l m : List Nat} (h : l.Perm m) : prodL l = prodL m := by
  induction h with
  | nil => rfl
  | cons x _ ih => simp only [prodL, ih]
  | swap x y l => simp only [prodL]; exact Nat.mul_left_comm _ _ _
  | trans _ _ h1 h2 => exact h1.trans h2
def fac : Nat → Nat
  | 0 => 1
  | n + 1 => (n + 1) * fac n
theorem prod_all : ∀ (n : Nat) (l : List Nat), l.Nodup → l.length = n → (∀ x ∈ l, 1 ≤ x ∧ x ≤ n) → prodL l = fac n := by
  intro n
  induction n with
  | zero =>
    intro l _ h _
    cases l with
    | nil => rfl
    | cons x l => simp at h
  | succ n ih =>
    intro l hn hl h
    have hm : (n + 1) ∈ l := Classical.byContradiction fun hc => by
      have h1 : ∀ x ∈ l.map (· - 1), x < n := fun x hx => by
        obtain ⟨y, hy, rfl⟩ := List.mem_map.1 hx
        have := h y hy
        have : y ≠ n + 1 := fun e => hc (e ▸ hy)
        omega
      have h2 : (l.map (· - 1)).Nodup := by
        refine List.pairwise_map.2 ?_
        refine List.Pairwise.imp_of_mem ?_ hn
        intro a b ha hb hab
        have := h a ha
        have := h b hb
        omega
      have := nodup_len n _ h2 h1
      simp at this
      omega
    have hp := List.perm_cons_erase hm
    rw [prodL_perm hp]
    simp only [prodL, fac]
    congr 1
    refine ih _ (hn.erase _) (by rw [List.length_erase_of_mem hm, hl]; rfl) fun x hx => ?_
    have h1 := h x (List.mem_of_mem_erase hx)
    have h2 : x ≠ n + 1 := (List.Nodup.mem_erase_iff hn).1 hx |>.1
    omega

theorem mod_eq_dvd {a b m : Nat} (h : a ≤ b) (hm : a % m = b % m) : m ∣ b - a := Nat.dvd_of_mod_eq_zero (Nat.sub_mod_eq_zero_of_mod_eq hm.symm)

theorem prod_map (a p : Nat) : ∀ l : List Nat, prodL (l.map (fun x => a * x % p)) % p = a ^ l.length * prodL l % p
  | [] => by simp [prodL]
  | x :: l => by
    simp only [List.map_cons, prodL, List.length_cons]
    rw [Nat.mod_mul_mod, Nat.mul_mod, prod_map a p l, ← Nat.mul_mod, Nat.pow_succ]
    congr 1
    grind

/-- Fermat's little theorem. -/
theorem Pr.fermat {p a : Nat} (hp : Pr p) (ha : ¬ p ∣ a) : a ^ (p - 1) % p = 1 := by
  have h2 := hp.1
  obtain ⟨l, hl⟩ : ∃ l, l = (List.range (p - 1)).map (· + 1) := ⟨_, rfl⟩
  have hll : l.length = p - 1 := by rw [hl]; simp
  have hmem : ∀ x ∈ l, 1 ≤ x ∧ x < p := fun x hx => by
    rw [hl] at hx
    obtain ⟨y, hy, rfl⟩ := List.mem_map.1 hx
    have := List.mem_range.1 hy
    omega
  have hnd : l.Nodup := by
    rw [hl]
    refine List.pairwise_map.2 ?_
    exact List.Pairwise.imp (by intro a b h; omega) List.nodup_range
  have key : (l.map fun x => a * x % p).Nodup := by
    refine List.pairwise_map.2 ?_
    refine List.Pairwise.imp_of_mem ?_ hnd
    intro x y hx hy hxy he
    have hx' := hmem x hx
    have hy' := hmem y hy
    have wlog : ∀ u v, 1 ≤ u → v < p → u < v → a * u % p = a * v % p → False := fun u v h1 h2 h3 h4 => by
      have h5 := mod_eq_dvd (Nat.mul_le_mul_left a (Nat.le_of_lt h3)) h4
      rw [← Nat.mul_sub] at h5
      rcases hp.euclid h5 with h | h
      · exact ha h
      · exact hp.mod_ne (by omega) (by omega) h
    rcases Nat.lt_or_ge x y with h | h
    · exact wlog x y hx'.1 hy'.2 h he
    · exact wlog y x hy'.1 hx'.2 (by omega) he.symm
  have e1 := prod_all (p - 1) l hnd hll fun x hx => by have := hmem x hx; omega
  have e2 := prod_all (p - 1) (l.map fun x => a * x % p) key (by simp [hll]) fun x hx => by
    obtain ⟨y, hy, rfl⟩ := List.mem_map.1 hx
    have h1 := Nat.mod_lt (a * y) (show 0 < p by omega)
    have h3 : a * y % p ≠ 0 := fun e => by
      rcases hp.euclid (Nat.dvd_of_mod_eq_zero e) with h | h
      · exact ha h
      · have := hmem y hy
        exact hp.mod_ne (by omega) (by omega) h
    omega
  have e3 := prod_map a p l
  rw [e2, e1, hll] at e3
  have hf : ∀ n, n < p → ¬ p ∣ fac n := by
    intro n
    induction n with
    | zero => intro _ h; have := Nat.le_of_dvd (by decide) h; simp [fac] at this; omega
    | succ n ih =>
      intro hn h
      rcases hp.euclid h with h | h
      · exact hp.mod_ne (by omega) hn h
      · exact ih (by omega) h
  have hge : fac (p - 1) ≤ a ^ (p - 1) * fac (p - 1) := Nat.le_mul_of_pos_left _ (Nat.pos_of_ne_zero fun h => by
    have h1 : a = 0 := by
      rcases Nat.eq_zero_or_pos a with h0 | h0
      · exact h0
      · exact absurd h (Nat.ne_of_gt (Nat.pow_pos h0))
    exact ha (h1 ▸ Nat.dvd_zero p))
  have h5 := mod_eq_dvd hge e3
  have h6 : a ^ (p - 1) * fac (p - 1) - fac (p - 1) = (a ^ (p - 1) - 1) * fac (p - 1) := by rw [Nat.sub_mul, Nat.one_mul]
  rw [h6] at h5
  rcases hp.euclid h5 with h | h
  · obtain ⟨k, hk⟩ := h
    have hpos : 0 < a ^ (p - 1) := Nat.pow_pos (Nat.pos_of_ne_zero fun h => ha (h ▸ Nat.dvd_zero p))
    have : a ^ (p - 1) = 1 + p * k := by omega
    rw [this, Nat.add_mul_mod_self_left, Nat.mod_eq_of_lt (by omega)]
  · exact absurd h (hf _ (by omega))

end Mir

namespace Mir

/-- Powers modulo m, by squares. -/
def pmF (a m : Nat) : Nat → Nat → Nat
  | 0, _ => 1 % m
  | f + 1, e => bif Nat.beq e 0 then 1 % m else bif Nat.beq (e % 2) 1 then pmF a m f (e / 2) * pmF a m f (e / 2) % m * a % m else pmF a m f (e / 2) * pmF a m f (e / 2) % m
theorem pmF_eq (a m : Nat) : ∀ f e, e < 2 ^ f → pmF a m f e = a ^ e % m
  | 0, e, h => by
    have : e = 0 := by simpa using h
    subst this; simp [pmF]
  | f + 1, e, h => by
    have ih := pmF_eq a m f (e / 2) (by rw [Nat.pow_succ] at h; omega)
    rw [pmF, ih]
    by_cases h0 : e = 0
    · subst h0; simp
    · have hb : Nat.beq e 0 = false := by rw [← Bool.not_eq_true, Nat.beq_eq]; exact h0
      rw [hb, cond_false]
      have e1 : a ^ (e / 2) % m * (a ^ (e / 2) % m) % m = a ^ (2 * (e / 2)) % m := by rw [← Nat.mul_mod, ← Nat.pow_add]; congr 2; omega
      rw [e1]
      by_cases h1 : e % 2 = 1
      · have hb : Nat.beq (e % 2) 1 = true := by rw [Nat.beq_eq]; exact h1
        rw [hb, cond_true, Nat.mod_mul_mod, ← Nat.pow_succ]
        congr 2; omega
      · have hb : Nat.beq (e % 2) 1 = false := by rw [← Bool.not_eq_true, Nat.beq_eq]; exact h1
        rw [hb, cond_false]
        congr 2; omega

theorem pow_mod_gcd {b r : Nat} : ∀ (m n : Nat), b ^ m % r = 1 % r → b ^ n % r = 1 % r → b ^ Nat.gcd m n % r = 1 % r := by
  intro m n
  induction m, n using Nat.gcd.induction with
  | H0 n => intro _ h; rw [Nat.gcd_zero_left]; exact h
  | H1 m n hm ih =>
    intro h1 h2
    rw [Nat.gcd_rec]
    refine ih ?_ h1
    have h3 := Nat.div_add_mod n m
    have h4 : b ^ n % r = b ^ (n % m) % r := by
      conv => lhs; rw [← h3]
      rw [Nat.pow_add, Nat.pow_mul, Nat.mul_mod, Nat.pow_mod, h1, ← Nat.pow_mod, Nat.one_pow, ← Nat.mul_mod, Nat.one_mul]
    rw [← h4]; exact h2

theorem Pr.dvd_pow {p a : Nat} (h : Pr p) : ∀ n, p ∣ a ^ n → p ∣ a
  | 0, hd => by
    rw [Nat.pow_zero] at hd
    have := Nat.le_of_dvd (by decide) hd
    have := h.1
    omega
  | n + 1, hd => by
    rw [Nat.pow_succ] at hd
    rcases h.euclid hd with h1 | h1
    · exact h.dvd_pow n h1
    · exact h1

/-- Pocklington's test: N - 1 is F R, a's power R has order F modulo each prime that divides N. -/
theorem pock {N F R a : Nat} (hN : 2 ≤ N) (hFR : F * R = N - 1) (hF : N < (F + 1) * (F + 1)) (h1 : a ^ (N - 1) % N = 1)
    (hq : ∀ q, Pr q → q ∣ F → Nat.gcd (a ^ ((N - 1) / q) % N + (N - 1)) N = 1) : Pr N := by
  refine prime_of hN fun r hr hrN => ?_
  have hr2 := hr.1
  have hF0 : F ≠ 0 := fun h => by rw [h, Nat.zero_mul] at hFR; omega
  have e1 : a ^ (N - 1) % r = 1 % r := by
    have : a ^ (N - 1) % N % r = 1 % r := by rw [h1]
    rwa [Nat.mod_mod_of_dvd _ hrN] at this
  have hra : ¬ r ∣ a := fun h => by
    obtain ⟨k, hk⟩ := h
    have : a ^ (N - 1) % r = 0 := by
      rw [hk, Nat.mul_pow, show N - 1 = (N - 2) + 1 by omega, Nat.pow_succ r]
      rw [Nat.mul_assoc, Nat.mul_left_comm]
      exact Nat.mul_mod_right _ _
    rw [this, Nat.mod_eq_of_lt hr2] at e1
    omega
  obtain ⟨b, hb⟩ : ∃ b, b = a ^ R := ⟨_, rfl⟩
  have hrb : ¬ r ∣ b := fun h => hra (hr.dvd_pow R (hb ▸ h))
  have bF : b ^ F % r = 1 % r := by rw [hb, ← Nat.pow_mul, Nat.mul_comm, hFR]; exact e1
  have order : ∀ d, 0 < d → d < F → b ^ d % r ≠ 1 % r := fun d h0 hd he => by
    have g1 := pow_mod_gcd d F he bF
    obtain ⟨g, hg⟩ : ∃ g, g = Nat.gcd d F := ⟨_, rfl⟩
    have g2 : g ∣ F := hg ▸ Nat.gcd_dvd_right d F
    have g3 : g ≤ d := hg ▸ Nat.gcd_le_left F h0
    rw [← hg] at g1
    obtain ⟨k, hk⟩ := g2
    have hk2 : 2 ≤ k := by
      rcases Nat.lt_or_ge k 2 with h | h
      · have h3 : k = 0 ∨ k = 1 := by omega
        rcases h3 with h3 | h3
        · rw [h3, Nat.mul_zero] at hk; exact absurd hk hF0
        · rw [h3, Nat.mul_one] at hk; omega
      · exact h
    obtain ⟨q, hqp, hqk⟩ := exists_prime k k (Nat.le_refl k) hk2
    obtain ⟨k', hk'⟩ := hqk
    have hqF : q ∣ F := ⟨g * k', by rw [hk, hk', Nat.mul_left_comm]⟩
    have hq0 : 0 < q := by have := hqp.1; omega
    have e2 : (N - 1) / q = R * (g * k') := by
      rw [← hFR, hk, hk', Nat.mul_comm g, Nat.mul_assoc q, Nat.mul_assoc q, Nat.mul_div_cancel_left _ hq0, Nat.mul_comm k' g, Nat.mul_comm]
    have e3 : a ^ ((N - 1) / q) % r = 1 % r := by
      rw [e2, Nat.pow_mul, ← hb, Nat.pow_mul, Nat.pow_mod, g1, ← Nat.pow_mod, Nat.one_pow]
    have h5 := hq q hqp hqF
    have h6 : r ∣ a ^ ((N - 1) / q) % N + (N - 1) := by
      apply Nat.dvd_of_mod_eq_zero
      rw [Nat.add_mod, Nat.mod_mod_of_dvd _ hrN, e3]
      obtain ⟨z, hz⟩ := hrN
      rw [← Nat.add_mod, show 1 + (N - 1) = N by omega, hz]
      exact Nat.mul_mod_right r z
    have h7 : r ∣ 1 := h5 ▸ Nat.dvd_gcd h6 hrN
    have := Nat.le_of_dvd (by decide) h7
    omega
  -- the powers of b are F numbers below r, none is 0
  have nd : ((List.range F).map fun i => b ^ i % r - 1).Nodup := by
    refine List.pairwise_map.2 ?_
    refine List.Pairwise.imp_of_mem (R := fun i j => i < j) ?_ List.pairwise_lt_range
    intro i j hi hj hij he
    have hi' := List.mem_range.1 hi
    have hj' := List.mem_range.1 hj
    have nz : ∀ k, b ^ k % r ≠ 0 := fun k h => hrb (hr.dvd_pow k (Nat.dvd_of_mod_eq_zero h))
    have he' : b ^ i % r = b ^ j % r := by have := nz i; have := nz j; omega
    have hbp : 0 < b := Nat.pos_of_ne_zero fun h => hrb (by rw [h]; exact Nat.dvd_zero r)
    have h8 := mod_eq_dvd (Nat.pow_le_pow_right hbp (Nat.le_of_lt hij)) he'
    have h9 : b ^ j - b ^ i = b ^ i * (b ^ (j - i) - 1) := by
      rw [Nat.mul_sub, Nat.mul_one, ← Nat.pow_add]; congr 2; omega
    rw [h9] at h8
    rcases hr.euclid h8 with h | h
    · exact hrb (hr.dvd_pow i h)
    · refine order (j - i) (by omega) (by omega) ?_
      have hpos : 0 < b ^ (j - i) := Nat.pow_pos hbp
      obtain ⟨z, hz⟩ := h
      have : b ^ (j - i) = 1 + r * z := by omega
      rw [this, Nat.add_mul_mod_self_left]
  have hl := nodup_len (r - 1) _ nd fun x hx => by
    obtain ⟨i, hi, rfl⟩ := List.mem_map.1 hx
    have := Nat.mod_lt (b ^ i) (show 0 < r by omega)
    have nz : b ^ i % r ≠ 0 := fun h => hrb (hr.dvd_pow i (Nat.dvd_of_mod_eq_zero h))
    omega
  rw [List.length_map, List.length_range] at hl
  exact Nat.lt_of_lt_of_le hF (Nat.mul_le_mul (by omega) (by omega))

/-- A prime that divides a product of primes' powers is one of them. -/
theorem Pr.eq_of_dvd {p q : Nat} (hp : Pr p) (hq : Pr q) (h : q ∣ p) : q = p := by
  rcases hp.2 q h with h1 | h1
  · have := hq.1; omega
  · exact h1
theorem dvd_cons {p n F q : Nat} (hp : Pr p) (hq : Pr q) (h : q ∣ p ^ n * F) : q = p ∨ q ∣ F := by
  rcases hq.euclid h with h1 | h1
  · exact .inl (hp.eq_of_dvd hq (hq.dvd_pow n h1))
  · exact .inr h1

/-- Small primes, by trial. -/
def noDiv (n : Nat) : Nat → Bool
  | 0 => true
  | k + 1 => (Nat.beq k 0 || !Nat.beq (n % (k + 1)) 0) && noDiv n k
theorem noDiv_ok {n : Nat} : ∀ {k : Nat}, noDiv n k = true → ∀ d, 2 ≤ d → d ≤ k → ¬ d ∣ n
  | 0, _, d, h1, h2 => by omega
  | k + 1, h, d, h1, h2 => by
    simp only [noDiv, Bool.and_eq_true, Bool.or_eq_true, Bool.not_eq_true', Nat.beq_eq] at h
    rcases Nat.lt_or_ge d (k + 1) with h3 | h3
    · exact noDiv_ok h.2 d h1 (by omega)
    · have h4 : d = k + 1 := by omega
      subst h4
      rcases h.1 with h5 | h5
      · omega
      · intro hd
        have h6 := Nat.mod_eq_zero_of_dvd hd
        rw [h6] at h5
        simp at h5
theorem pr_small {n k : Nat} (h2 : 2 ≤ n) (hk : n < (k + 1) * (k + 1)) (h : noDiv n k = true) : Pr n := by
  refine prime_of h2 fun r hr hrn => ?_
  rcases Nat.lt_or_ge k r with h1 | h1
  · exact Nat.lt_of_lt_of_le hk (Nat.mul_le_mul h1 h1)
  · exact absurd hrn (noDiv_ok h r hr.1 h1)

/-- Pocklington's test as the kernel works it out. -/
def chkP (N F R a f : Nat) : Bool := Nat.ble 2 N && Nat.beq (F * R) (N - 1) && Nat.ble (N + 1) ((F + 1) * (F + 1)) && Nat.ble (N + 1) (2 ^ f) && Nat.beq (pmF a N f (N - 1)) 1
def okQ (N a f q : Nat) : Bool := Nat.beq (Nat.gcd (pmF a N f ((N - 1) / q) + (N - 1)) N) 1
theorem pockC {N F R a f : Nat} (h : chkP N F R a f = true) (hq : ∀ q, Pr q → q ∣ F → okQ N a f q = true) : Pr N := by
  simp only [chkP, Bool.and_eq_true, Nat.ble_eq, Nat.beq_eq] at h
  obtain ⟨⟨⟨⟨h1, h2⟩, h3⟩, h4⟩, h5⟩ := h
  rw [pmF_eq a N f _ (by omega)] at h5
  refine pock h1 h2 h3 h5 fun q h6 h7 => ?_
  have h8 := hq q h6 h7
  simp only [okQ, Nat.beq_eq] at h8
  rwa [pmF_eq a N f _ (Nat.lt_of_le_of_lt (Nat.div_le_self _ _) (by omega))] at h8
theorem Pr.not_one {q : Nat} {C : Prop} (hq : Pr q) (h : q ∣ 1) : C := by
  have := Nat.le_of_dvd (by decide) h
  have := hq.1
  omega

end Mir

namespace Mir

theorem q_8413201 : Pr 8413201 := pr_small (k := 2900) (by decide) (by decide) (by kernel_rfl)
theorem p_1 : Pr 252396031 := pockC (F := (8413201 ^ 1 * 1)) (R := 30) (a := 2) (f := 28) (by kernel_rfl) fun q hq hd => by
  rcases dvd_cons q_8413201 hq hd with h | hd
  · subst h; kernel_rfl
  exact hq.not_one hd
theorem p_2 : Pr 455827231987 := pockC (F := (252396031 ^ 1 * 1)) (R := 1806) (a := 2) (f := 39) (by kernel_rfl) fun q hq hd => by
  rcases dvd_cons p_1 hq hd with h | hd
  · subst h; kernel_rfl
  exact hq.not_one hd
theorem p_3 : Pr 5933177618131140283 := pockC (F := (455827231987 ^ 1 * 1)) (R := 13016286) (a := 2) (f := 63) (by kernel_rfl) fun q hq hd => by
  rcases dvd_cons p_2 hq hd with h | hd
  · subst h; kernel_rfl
  exact hq.not_one hd
theorem p_4 : Pr 288626509448065367648032903 := pockC (F := (5933177618131140283 ^ 1 * 1)) (R := 48646194) (a := 2) (f := 88) (by kernel_rfl) fun q hq hd => by
  rcases dvd_cons p_3 hq hd with h | hd
  · subst h; kernel_rfl
  exact hq.not_one hd
theorem q_275729 : Pr 275729 := pr_small (k := 525) (by decide) (by decide) (by kernel_rfl)
theorem q_54251 : Pr 54251 := pr_small (k := 232) (by decide) (by decide) (by kernel_rfl)
theorem p_7 : Pr 108341181769254293 := pockC (F := (275729 ^ 1 * (54251 ^ 1 * 1))) (R := 7242748) (a := 2) (f := 57) (by kernel_rfl) fun q hq hd => by
  rcases dvd_cons q_275729 hq hd with h | hd
  · subst h; kernel_rfl
  rcases dvd_cons q_54251 hq hd with h | hd
  · subst h; kernel_rfl
  exact hq.not_one hd
theorem p_8 : Pr 6277101735386680763835789423207666416083908700390324961279 := pockC (F := (288626509448065367648032903 ^ 1 * (108341181769254293 ^ 1 * 1))) (R := 200737902446282) (a := 2) (f := 192) (by kernel_rfl) fun q hq hd => by
  rcases dvd_cons p_4 hq hd with h | hd
  · subst h; kernel_rfl
  rcases dvd_cons p_7 hq hd with h | hd
  · subst h; kernel_rfl
  exact hq.not_one hd
theorem q_2998279 : Pr 2998279 := pr_small (k := 1731) (by decide) (by decide) (by kernel_rfl)
theorem q_373 : Pr 373 := pr_small (k := 19) (by decide) (by decide) (by kernel_rfl)
theorem p_11 : Pr 67280421310721 := pockC (F := (2998279 ^ 1 * (373 ^ 1 * 1))) (R := 60160) (a := 3) (f := 46) (by kernel_rfl) fun q hq hd => by
  rcases dvd_cons q_2998279 hq hd with h | hd
  · subst h; kernel_rfl
  rcases dvd_cons q_373 hq hd with h | hd
  · subst h; kernel_rfl
  exact hq.not_one hd
theorem q_6700417 : Pr 6700417 := pr_small (k := 2588) (by decide) (by decide) (by kernel_rfl)
theorem q_274177 : Pr 274177 := pr_small (k := 523) (by decide) (by decide) (by kernel_rfl)
theorem q_65537 : Pr 65537 := pr_small (k := 256) (by decide) (by decide) (by kernel_rfl)
theorem q_641 : Pr 641 := pr_small (k := 25) (by decide) (by decide) (by kernel_rfl)
theorem p_16 : Pr 26959946667150639794667015087019630673557916260026308143510066298881 := pockC (F := (67280421310721 ^ 1 * (6700417 ^ 1 * (274177 ^ 1 * (65537 ^ 1 * (641 ^ 1 * 1)))))) (R := 5192217630372313364192902785269760) (a := 2) (f := 224) (by kernel_rfl) fun q hq hd => by
  rcases dvd_cons p_11 hq hd with h | hd
  · subst h; kernel_rfl
  rcases dvd_cons q_6700417 hq hd with h | hd
  · subst h; kernel_rfl
  rcases dvd_cons q_274177 hq hd with h | hd
  · subst h; kernel_rfl
  rcases dvd_cons q_65537 hq hd with h | hd
  · subst h; kernel_rfl
  rcases dvd_cons q_641 hq hd with h | hd
  · subst h; kernel_rfl
  exact hq.not_one hd
theorem q_704251 : Pr 704251 := pr_small (k := 839) (by decide) (by decide) (by kernel_rfl)
theorem q_78283 : Pr 78283 := pr_small (k := 279) (by decide) (by decide) (by kernel_rfl)
theorem p_19 : Pr 46076956964474543 := pockC (F := (704251 ^ 1 * (78283 ^ 1 * 1))) (R := 835774) (a := 2) (f := 56) (by kernel_rfl) fun q hq hd => by
  rcases dvd_cons q_704251 hq hd with h | hd
  · subst h; kernel_rfl
  rcases dvd_cons q_78283 hq hd with h | hd
  · subst h; kernel_rfl
  exact hq.not_one hd
theorem q_3677 : Pr 3677 := pr_small (k := 60) (by decide) (by decide) (by kernel_rfl)
theorem q_197 : Pr 197 := pr_small (k := 14) (by decide) (by decide) (by kernel_rfl)
theorem p_22 : Pr 66417393611 := pockC (F := (3677 ^ 1 * (197 ^ 1 * 1))) (R := 91690) (a := 2) (f := 36) (by kernel_rfl) fun q hq hd => by
  rcases dvd_cons q_3677 hq hd with h | hd
  · subst h; kernel_rfl
  rcases dvd_cons q_197 hq hd with h | hd
  · subst h; kernel_rfl
  exact hq.not_one hd
theorem p_23 : Pr 11290956913871 := pockC (F := (66417393611 ^ 1 * 1)) (R := 170) (a := 2) (f := 44) (by kernel_rfl) fun q hq hd => by
  rcases dvd_cons p_22 hq hd with h | hd
  · subst h; kernel_rfl
  exact hq.not_one hd
theorem p_24 : Pr 774023187263532362759620327192479577272145303 := pockC (F := (46076956964474543 ^ 1 * (11290956913871 ^ 1 * 1))) (R := 1487782449629334) (a := 2) (f := 150) (by kernel_rfl) fun q hq hd => by
  rcases dvd_cons p_19 hq hd with h | hd
  · subst h; kernel_rfl
  rcases dvd_cons p_23 hq hd with h | hd
  · subst h; kernel_rfl
  exact hq.not_one hd
theorem p_25 : Pr 835945042244614951780389953367877943453916927241 := pockC (F := (774023187263532362759620327192479577272145303 ^ 1 * 1)) (R := 1080) (a := 2) (f := 160) (by kernel_rfl) fun q hq hd => by
  rcases dvd_cons p_24 hq hd with h | hd
  · subst h; kernel_rfl
  exact hq.not_one hd
theorem p_26 : Pr 115792089210356248762697446949407573530086143415290314195533631308867097853951 := pockC (F := (835945042244614951780389953367877943453916927241 ^ 1 * 1)) (R := 138516389665330497628477975950) (a := 2) (f := 256) (by kernel_rfl) fun q hq hd => by
  rcases dvd_cons p_25 hq hd with h | hd
  · subst h; kernel_rfl
  exact hq.not_one hd
theorem q_363557 : Pr 363557 := pr_small (k := 602) (by decide) (by decide) (by kernel_rfl)
theorem p_28 : Pr 532247449 := pockC (F := (363557 ^ 1 * 1)) (R := 1464) (a := 2) (f := 29) (by kernel_rfl) fun q hq hd => by
  rcases dvd_cons q_363557 hq hd with h | hd
  · subst h; kernel_rfl
  exact hq.not_one hd
theorem p_29 : Pr 44925942675193 := pockC (F := (532247449 ^ 1 * 1)) (R := 84408) (a := 2) (f := 46) (by kernel_rfl) fun q hq hd => by
  rcases dvd_cons p_28 hq hd with h | hd
  · subst h; kernel_rfl
  exact hq.not_one hd
theorem p_30 : Pr 35581458644053887931343 := pockC (F := (44925942675193 ^ 1 * 1)) (R := 792002494) (a := 2) (f := 75) (by kernel_rfl) fun q hq hd => by
  rcases dvd_cons p_29 hq hd with h | hd
  · subst h; kernel_rfl
  exact hq.not_one hd
theorem p_31 : Pr 23964610537191310276190549303 := pockC (F := (35581458644053887931343 ^ 1 * 1)) (R := 673514) (a := 2) (f := 95) (by kernel_rfl) fun q hq hd => by
  rcases dvd_cons p_30 hq hd with h | hd
  · subst h; kernel_rfl
  exact hq.not_one hd
theorem p_32 : Pr 862725979338887169942859774909 := pockC (F := (23964610537191310276190549303 ^ 1 * 1)) (R := 36) (a := 2) (f := 100) (by kernel_rfl) fun q hq hd => by
  rcases dvd_cons p_31 hq hd with h | hd
  · subst h; kernel_rfl
  exact hq.not_one hd
theorem p_33 : Pr 20705423504133292078628634597817 := pockC (F := (862725979338887169942859774909 ^ 1 * 1)) (R := 24) (a := 2) (f := 105) (by kernel_rfl) fun q hq hd => by
  rcases dvd_cons p_32 hq hd with h | hd
  · subst h; kernel_rfl
  exact hq.not_one hd
theorem p_34 : Pr 413244619895455989650825325680172591660047 := pockC (F := (20705423504133292078628634597817 ^ 1 * 1)) (R := 19958279038) (a := 2) (f := 139) (by kernel_rfl) fun q hq hd => by
  rcases dvd_cons p_33 hq hd with h | hd
  · subst h; kernel_rfl
  exact hq.not_one hd
theorem p_35 : Pr 12397338596863679689524759770405177749801411 := pockC (F := (413244619895455989650825325680172591660047 ^ 1 * 1)) (R := 30) (a := 2) (f := 144) (by kernel_rfl) fun q hq hd => by
  rcases dvd_cons p_34 hq hd with h | hd
  · subst h; kernel_rfl
  exact hq.not_one hd
theorem q_21407 : Pr 21407 := pr_small (k := 146) (by decide) (by decide) (by kernel_rfl)
theorem p_37 : Pr 246608641 := pockC (F := (21407 ^ 1 * 1)) (R := 11520) (a := 2) (f := 28) (by kernel_rfl) fun q hq hd => by
  rcases dvd_cons q_21407 hq hd with h | hd
  · subst h; kernel_rfl
  exact hq.not_one hd
theorem q_881 : Pr 881 := pr_small (k := 29) (by decide) (by decide) (by kernel_rfl)
theorem q_211 : Pr 211 := pr_small (k := 14) (by decide) (by decide) (by kernel_rfl)
theorem p_40 : Pr 105957871 := pockC (F := (881 ^ 1 * (211 ^ 1 * 1))) (R := 570) (a := 2) (f := 27) (by kernel_rfl) fun q hq hd => by
  rcases dvd_cons q_881 hq hd with h | hd
  · subst h; kernel_rfl
  rcases dvd_cons q_211 hq hd with h | hd
  · subst h; kernel_rfl
  exact hq.not_one hd
theorem p_41 : Pr 529709925838459440593 := pockC (F := (246608641 ^ 1 * (105957871 ^ 1 * 1))) (R := 20272) (a := 2) (f := 69) (by kernel_rfl) fun q hq hd => by
  rcases dvd_cons p_37 hq hd with h | hd
  · subst h; kernel_rfl
  rcases dvd_cons p_40 hq hd with h | hd
  · subst h; kernel_rfl
  exact hq.not_one hd
theorem p_42 : Pr 19173790298027098165721053155794528970226934547887232785722672956982046098136719667167519737147526097 := pockC (F := (12397338596863679689524759770405177749801411 ^ 1 * (529709925838459440593 ^ 1 * 1))) (R := 2919721308762696059271802914099725552) (a := 2) (f := 334) (by kernel_rfl) fun q hq hd => by
  rcases dvd_cons p_35 hq hd with h | hd
  · subst h; kernel_rfl
  rcases dvd_cons p_41 hq hd with h | hd
  · subst h; kernel_rfl
  exact hq.not_one hd
theorem p_43 : Pr 39402006196394479212279040100143613805079739270465446667948293404245721771496870329047266088258938001861606973112319 := pockC (F := (19173790298027098165721053155794528970226934547887232785722672956982046098136719667167519737147526097 ^ 1 * 1)) (R := 2054993070433694) (a := 2) (f := 384) (by kernel_rfl) fun q hq hd => by
  rcases dvd_cons p_42 hq hd with h | hd
  · subst h; kernel_rfl
  exact hq.not_one hd
theorem q_9211861 : Pr 9211861 := pr_small (k := 3035) (by decide) (by decide) (by kernel_rfl)
theorem p_45 : Pr 24098228377 := pockC (F := (9211861 ^ 1 * 1)) (R := 2616) (a := 2) (f := 35) (by kernel_rfl) fun q hq hd => by
  rcases dvd_cons q_9211861 hq hd with h | hd
  · subst h; kernel_rfl
  exact hq.not_one hd
theorem p_46 : Pr 674750394557 := pockC (F := (24098228377 ^ 1 * 1)) (R := 28) (a := 2) (f := 40) (by kernel_rfl) fun q hq hd => by
  rcases dvd_cons p_45 hq hd with h | hd
  · subst h; kernel_rfl
  exact hq.not_one hd
theorem p_47 : Pr 361725589517273017 := pockC (F := (674750394557 ^ 1 * 1)) (R := 536088) (a := 2) (f := 59) (by kernel_rfl) fun q hq hd => by
  rcases dvd_cons p_46 hq hd with h | hd
  · subst h; kernel_rfl
  exact hq.not_one hd
theorem p_48 : Pr 173308343918874810521923841 := pockC (F := (361725589517273017 ^ 1 * 1)) (R := 479115520) (a := 3) (f := 88) (by kernel_rfl) fun q hq hd => by
  rcases dvd_cons p_47 hq hd with h | hd
  · subst h; kernel_rfl
  exact hq.not_one hd
theorem q_8620289 : Pr 8620289 := pr_small (k := 2936) (by decide) (by decide) (by kernel_rfl)
theorem p_50 : Pr 2534364967 := pockC (F := (8620289 ^ 1 * 1)) (R := 294) (a := 2) (f := 32) (by kernel_rfl) fun q hq hd => by
  rcases dvd_cons q_8620289 hq hd with h | hd
  · subst h; kernel_rfl
  exact hq.not_one hd
theorem p_51 : Pr 145295143558111 := pockC (F := (2534364967 ^ 1 * 1)) (R := 57330) (a := 3) (f := 48) (by kernel_rfl) fun q hq hd => by
  rcases dvd_cons p_50 hq hd with h | hd
  · subst h; kernel_rfl
  exact hq.not_one hd
theorem q_23609 : Pr 23609 := pr_small (k := 153) (by decide) (by decide) (by kernel_rfl)
theorem q_1433 : Pr 1433 := pr_small (k := 37) (by decide) (by decide) (by kernel_rfl)
theorem p_54 : Pr 108140989558681 := pockC (F := (23609 ^ 1 * (1433 ^ 1 * 1))) (R := 3196440) (a := 3) (f := 47) (by kernel_rfl) fun q hq hd => by
  rcases dvd_cons q_23609 hq hd with h | hd
  · subst h; kernel_rfl
  rcases dvd_cons q_1433 hq hd with h | hd
  · subst h; kernel_rfl
  exact hq.not_one hd
theorem q_2995763 : Pr 2995763 := pr_small (k := 1730) (by decide) (by decide) (by kernel_rfl)
theorem p_56 : Pr 65427463921 := pockC (F := (2995763 ^ 1 * 1)) (R := 21840) (a := 3) (f := 36) (by kernel_rfl) fun q hq hd => by
  rcases dvd_cons q_2995763 hq hd with h | hd
  · subst h; kernel_rfl
  exact hq.not_one hd
theorem q_1663 : Pr 1663 := pr_small (k := 40) (by decide) (by decide) (by kernel_rfl)
theorem q_347 : Pr 347 := pr_small (k := 18) (by decide) (by decide) (by kernel_rfl)
theorem p_59 : Pr 2400573761 := pockC (F := (1663 ^ 1 * (347 ^ 1 * 1))) (R := 4160) (a := 3) (f := 32) (by kernel_rfl) fun q hq hd => by
  rcases dvd_cons q_1663 hq hd with h | hd
  · subst h; kernel_rfl
  rcases dvd_cons q_347 hq hd with h | hd
  · subst h; kernel_rfl
  exact hq.not_one hd
theorem q_49481 : Pr 49481 := pr_small (k := 222) (by decide) (by decide) (by kernel_rfl)
theorem p_61 : Pr 308761441 := pockC (F := (49481 ^ 1 * 1)) (R := 6240) (a := 3) (f := 29) (by kernel_rfl) fun q hq hd => by
  rcases dvd_cons q_49481 hq hd with h | hd
  · subst h; kernel_rfl
  exact hq.not_one hd
theorem p_62 : Pr 6864797660130609714981900799081393217269435300143305409394463459185543183397656052122559640661454554977296311391480858037121987999716643812574028291115057151 := pockC (F := (173308343918874810521923841 ^ 1 * (145295143558111 ^ 1 * (108140989558681 ^ 1 * (65427463921 ^ 1 * (2400573761 ^ 1 * (308761441 ^ 1 * 1))))))) (R := 51983872681684741093059959744394568031906407458160763996577072445913809650) (a := 3) (f := 521) (by kernel_rfl) fun q hq hd => by
  rcases dvd_cons p_48 hq hd with h | hd
  · subst h; kernel_rfl
  rcases dvd_cons p_51 hq hd with h | hd
  · subst h; kernel_rfl
  rcases dvd_cons p_54 hq hd with h | hd
  · subst h; kernel_rfl
  rcases dvd_cons p_56 hq hd with h | hd
  · subst h; kernel_rfl
  rcases dvd_cons p_59 hq hd with h | hd
  · subst h; kernel_rfl
  rcases dvd_cons p_61 hq hd with h | hd
  · subst h; kernel_rfl
  exact hq.not_one hd
theorem q_53 : Pr 53 := pr_small (k := 7) (by decide) (by decide) (by kernel_rfl)
theorem q_29 : Pr 29 := pr_small (k := 5) (by decide) (by decide) (by kernel_rfl)
theorem q_7 : Pr 7 := pr_small (k := 2) (by decide) (by decide) (by kernel_rfl)
theorem p_66 : Pr 107590001 := pockC (F := (53 ^ 1 * (29 ^ 1 * (7 ^ 1 * 1)))) (R := 10000) (a := 2) (f := 27) (by kernel_rfl) fun q hq hd => by
  rcases dvd_cons q_53 hq hd with h | hd
  · subst h; kernel_rfl
  rcases dvd_cons q_29 hq hd with h | hd
  · subst h; kernel_rfl
  rcases dvd_cons q_7 hq hd with h | hd
  · subst h; kernel_rfl
  exact hq.not_one hd
theorem q_7240687 : Pr 7240687 := pr_small (k := 2690) (by decide) (by decide) (by kernel_rfl)
theorem q_96557 : Pr 96557 := pr_small (k := 310) (by decide) (by decide) (by kernel_rfl)
theorem p_69 : Pr 255515944373312847190720520512484175977 := pockC (F := (107590001 ^ 1 * (7240687 ^ 1 * (96557 ^ 1 * 1)))) (R := 3396898387916374264) (a := 2) (f := 128) (by kernel_rfl) fun q hq hd => by
  rcases dvd_cons p_66 hq hd with h | hd
  · subst h; kernel_rfl
  rcases dvd_cons q_7240687 hq hd with h | hd
  · subst h; kernel_rfl
  rcases dvd_cons q_96557 hq hd with h | hd
  · subst h; kernel_rfl
  exact hq.not_one hd
theorem p_70 : Pr 205115282021455665897114700593932402728804164701536103180137503955397371 := pockC (F := (255515944373312847190720520512484175977 ^ 1 * 1)) (R := 802749442992798076634733441528810) (a := 2) (f := 237) (by kernel_rfl) fun q hq hd => by
  rcases dvd_cons p_69 hq hd with h | hd
  · subst h; kernel_rfl
  exact hq.not_one hd
theorem p_71 : Pr 115792089237316195423570985008687907853269984665640564039457584007908834671663 := pockC (F := (205115282021455665897114700593932402728804164701536103180137503955397371 ^ 1 * 1)) (R := 564522) (a := 2) (f := 256) (by kernel_rfl) fun q hq hd => by
  rcases dvd_cons p_70 hq hd with h | hd
  · subst h; kernel_rfl
  exact hq.not_one hd
theorem q_100483 : Pr 100483 := pr_small (k := 316) (by decide) (by decide) (by kernel_rfl)
theorem q_101 : Pr 101 := pr_small (k := 10) (by decide) (by decide) (by kernel_rfl)
theorem p_74 : Pr 13355798429 := pockC (F := (100483 ^ 1 * (101 ^ 1 * 1))) (R := 1316) (a := 2) (f := 34) (by kernel_rfl) fun q hq hd => by
  rcases dvd_cons q_100483 hq hd with h | hd
  · subst h; kernel_rfl
  rcases dvd_cons q_101 hq hd with h | hd
  · subst h; kernel_rfl
  exact hq.not_one hd
theorem q_436529 : Pr 436529 := pr_small (k := 660) (by decide) (by decide) (by kernel_rfl)
theorem p_76 : Pr 23572567 := pockC (F := (436529 ^ 1 * 1)) (R := 54) (a := 2) (f := 25) (by kernel_rfl) fun q hq hd => by
  rcases dvd_cons q_436529 hq hd with h | hd
  · subst h; kernel_rfl
  exact hq.not_one hd
theorem p_77 : Pr 136095069548351808925828417 := pockC (F := (13355798429 ^ 1 * (23572567 ^ 1 * 1))) (R := 432280512) (a := 2) (f := 87) (by kernel_rfl) fun q hq hd => by
  rcases dvd_cons p_74 hq hd with h | hd
  · subst h; kernel_rfl
  rcases dvd_cons p_76 hq hd with h | hd
  · subst h; kernel_rfl
  exact hq.not_one hd
theorem p_78 : Pr 1332297598440044874827085558802491743757193798159 := pockC (F := (136095069548351808925828417 ^ 1 * 1)) (R := 9789462637121520760974) (a := 2) (f := 160) (by kernel_rfl) fun q hq hd => by
  rcases dvd_cons p_77 hq hd with h | hd
  · subst h; kernel_rfl
  exact hq.not_one hd
theorem q_3257 : Pr 3257 := pr_small (k := 57) (by decide) (by decide) (by kernel_rfl)
theorem q_311 : Pr 311 := pr_small (k := 17) (by decide) (by decide) (by kernel_rfl)
theorem p_81 : Pr 1942793987 := pockC (F := (3257 ^ 1 * (311 ^ 1 * 1))) (R := 1918) (a := 2) (f := 31) (by kernel_rfl) fun q hq hd => by
  rcases dvd_cons q_3257 hq hd with h | hd
  · subst h; kernel_rfl
  rcases dvd_cons q_311 hq hd with h | hd
  · subst h; kernel_rfl
  exact hq.not_one hd
theorem p_82 : Pr 273564821309471 := pockC (F := (1942793987 ^ 1 * 1)) (R := 140810) (a := 2) (f := 48) (by kernel_rfl) fun q hq hd => by
  rcases dvd_cons p_81 hq hd with h | hd
  · subst h; kernel_rfl
  exact hq.not_one hd
theorem p_83 : Pr 18114915337470550679 := pockC (F := (273564821309471 ^ 1 * 1)) (R := 66218) (a := 2) (f := 64) (by kernel_rfl) fun q hq hd => by
  rcases dvd_cons p_82 hq hd with h | hd
  · subst h; kernel_rfl
  exact hq.not_one hd
theorem p_84 : Pr 1685556642320959799579593 := pockC (F := (18114915337470550679 ^ 1 * 1)) (R := 93048) (a := 2) (f := 81) (by kernel_rfl) fun q hq hd => by
  rcases dvd_cons p_83 hq hd with h | hd
  · subst h; kernel_rfl
  exact hq.not_one hd
theorem p_85 : Pr 13036179062997789943375385313119191 := pockC (F := (1685556642320959799579593 ^ 1 * 1)) (R := 7734049830) (a := 2) (f := 114) (by kernel_rfl) fun q hq hd => by
  rcases dvd_cons p_84 hq hd with h | hd
  · subst h; kernel_rfl
  exact hq.not_one hd
theorem p_86 : Pr 22721622932454352787552537995910928073340732145944992304435472941311 := pockC (F := (13036179062997789943375385313119191 ^ 1 * 1)) (R := 1742966464533151744582933451503410) (a := 2) (f := 224) (by kernel_rfl) fun q hq hd => by
  rcases dvd_cons p_85 hq hd with h | hd
  · subst h; kernel_rfl
  exact hq.not_one hd
theorem q_3686357 : Pr 3686357 := pr_small (k := 1919) (by decide) (by decide) (by kernel_rfl)
theorem p_88 : Pr 719569513687 := pockC (F := (3686357 ^ 1 * 1)) (R := 195198) (a := 2) (f := 40) (by kernel_rfl) fun q hq hd => by
  rcases dvd_cons q_3686357 hq hd with h | hd
  · subst h; kernel_rfl
  exact hq.not_one hd
theorem q_22709 : Pr 22709 := pr_small (k := 150) (by decide) (by decide) (by kernel_rfl)
theorem q_2851 : Pr 2851 := pr_small (k := 53) (by decide) (by decide) (by kernel_rfl)
theorem p_91 : Pr 151499460061 := pockC (F := (22709 ^ 1 * (2851 ^ 1 * 1))) (R := 2340) (a := 2) (f := 38) (by kernel_rfl) fun q hq hd => by
  rcases dvd_cons q_22709 hq hd with h | hd
  · subst h; kernel_rfl
  rcases dvd_cons q_2851 hq hd with h | hd
  · subst h; kernel_rfl
  exact hq.not_one hd
theorem p_92 : Pr 49712609355733181957277501974736893 := pockC (F := (719569513687 ^ 1 * (151499460061 ^ 1 * 1))) (R := 456018770356) (a := 2) (f := 116) (by kernel_rfl) fun q hq hd => by
  rcases dvd_cons p_88 hq hd with h | hd
  · subst h; kernel_rfl
  rcases dvd_cons p_91 hq hd with h | hd
  · subst h; kernel_rfl
  exact hq.not_one hd
theorem p_93 : Pr 3059213862715144055733503214373292934438943635608167530247 := pockC (F := (49712609355733181957277501974736893 ^ 1 * 1)) (R := 61537986083652146580222) (a := 2) (f := 191) (by kernel_rfl) fun q hq hd => by
  rcases dvd_cons p_92 hq hd with h | hd
  · subst h; kernel_rfl
  exact hq.not_one hd
theorem p_94 : Pr 76884956397045344220809746629001649093037950200943055203735601445031516197751 := pockC (F := (3059213862715144055733503214373292934438943635608167530247 ^ 1 * 1)) (R := 25132259412817788250) (a := 2) (f := 256) (by kernel_rfl) fun q hq hd => by
  rcases dvd_cons p_93 hq hd with h | hd
  · subst h; kernel_rfl
  exact hq.not_one hd
theorem q_577 : Pr 577 := pr_small (k := 24) (by decide) (by decide) (by kernel_rfl)
theorem q_227 : Pr 227 := pr_small (k := 15) (by decide) (by decide) (by kernel_rfl)
theorem p_97 : Pr 301251701 := pockC (F := (577 ^ 1 * (227 ^ 1 * 1))) (R := 2300) (a := 2) (f := 29) (by kernel_rfl) fun q hq hd => by
  rcases dvd_cons q_577 hq hd with h | hd
  · subst h; kernel_rfl
  rcases dvd_cons q_227 hq hd with h | hd
  · subst h; kernel_rfl
  exact hq.not_one hd
theorem q_6747833 : Pr 6747833 := pr_small (k := 2597) (by decide) (by decide) (by kernel_rfl)
theorem p_99 : Pr 115716149475651296730461 := pockC (F := (301251701 ^ 1 * (6747833 ^ 1 * 1))) (R := 56924620) (a := 2) (f := 77) (by kernel_rfl) fun q hq hd => by
  rcases dvd_cons p_97 hq hd with h | hd
  · subst h; kernel_rfl
  rcases dvd_cons q_6747833 hq hd with h | hd
  · subst h; kernel_rfl
  exact hq.not_one hd
theorem q_1889 : Pr 1889 := pr_small (k := 43) (by decide) (by decide) (by kernel_rfl)
theorem q_43 : Pr 43 := pr_small (k := 6) (by decide) (by decide) (by kernel_rfl)
theorem p_102 : Pr 312561497 := pockC (F := (1889 ^ 1 * (43 ^ 1 * 1))) (R := 3848) (a := 3) (f := 29) (by kernel_rfl) fun q hq hd => by
  rcases dvd_cons q_1889 hq hd with h | hd
  · subst h; kernel_rfl
  rcases dvd_cons q_43 hq hd with h | hd
  · subst h; kernel_rfl
  exact hq.not_one hd
theorem q_6947 : Pr 6947 := pr_small (k := 83) (by decide) (by decide) (by kernel_rfl)
theorem p_104 : Pr 547948229735387969 := pockC (F := (312561497 ^ 1 * (6947 ^ 1 * 1))) (R := 252352) (a := 2) (f := 59) (by kernel_rfl) fun q hq hd => by
  rcases dvd_cons p_102 hq hd with h | hd
  · subst h; kernel_rfl
  rcases dvd_cons q_6947 hq hd with h | hd
  · subst h; kernel_rfl
  exact hq.not_one hd
theorem p_105 : Pr 2307908307480288228542246803936276549862379769663891118114524423 := pockC (F := (115716149475651296730461 ^ 1 * (547948229735387969 ^ 1 * 1))) (R := 36398630904883309117758) (a := 2) (f := 211) (by kernel_rfl) fun q hq hd => by
  rcases dvd_cons p_99 hq hd with h | hd
  · subst h; kernel_rfl
  rcases dvd_cons p_104 hq hd with h | hd
  · subst h; kernel_rfl
  exact hq.not_one hd
theorem p_106 : Pr 1763593322239166354161909842446019520889512772719515192772960415288640868802149818095501499903527 := pockC (F := (2307908307480288228542246803936276549862379769663891118114524423 ^ 1 * 1)) (R := 764152248390062675243913697189162) (a := 2) (f := 320) (by kernel_rfl) fun q hq hd => by
  rcases dvd_cons p_105 hq hd with h | hd
  · subst h; kernel_rfl
  exact hq.not_one hd
theorem q_89 : Pr 89 := pr_small (k := 9) (by decide) (by decide) (by kernel_rfl)
theorem q_67 : Pr 67 := pr_small (k := 8) (by decide) (by decide) (by kernel_rfl)
theorem p_109 : Pr 2663886769 := pockC (F := (227 ^ 1 * (89 ^ 1 * (67 ^ 1 * 1)))) (R := 1968) (a := 2) (f := 32) (by kernel_rfl) fun q hq hd => by
  rcases dvd_cons q_227 hq hd with h | hd
  · subst h; kernel_rfl
  rcases dvd_cons q_89 hq hd with h | hd
  · subst h; kernel_rfl
  rcases dvd_cons q_67 hq hd with h | hd
  · subst h; kernel_rfl
  exact hq.not_one hd
theorem p_110 : Pr 7057776167979264311 := pockC (F := (2663886769 ^ 1 * 1)) (R := 2649427990) (a := 2) (f := 63) (by kernel_rfl) fun q hq hd => by
  rcases dvd_cons p_109 hq hd with h | hd
  · subst h; kernel_rfl
  exact hq.not_one hd
theorem p_111 : Pr 9511259360250244436150360929400467 := pockC (F := (7057776167979264311 ^ 1 * 1)) (R := 1347628365348606) (a := 2) (f := 113) (by kernel_rfl) fun q hq hd => by
  rcases dvd_cons p_110 hq hd with h | hd
  · subst h; kernel_rfl
  exact hq.not_one hd
theorem q_337 : Pr 337 := pr_small (k := 18) (by decide) (by decide) (by kernel_rfl)
theorem q_71 : Pr 71 := pr_small (k := 8) (by decide) (by decide) (by kernel_rfl)
theorem p_114 : Pr 123606883 := pockC (F := (337 ^ 1 * (71 ^ 1 * 1))) (R := 5166) (a := 2) (f := 27) (by kernel_rfl) fun q hq hd => by
  rcases dvd_cons q_337 hq hd with h | hd
  · subst h; kernel_rfl
  rcases dvd_cons q_71 hq hd with h | hd
  · subst h; kernel_rfl
  exact hq.not_one hd
theorem p_115 : Pr 13843970897 := pockC (F := (123606883 ^ 1 * 1)) (R := 112) (a := 2) (f := 34) (by kernel_rfl) fun q hq hd => by
  rcases dvd_cons p_114 hq hd with h | hd
  · subst h; kernel_rfl
  exact hq.not_one hd
theorem p_116 : Pr 8076987940436711 := pockC (F := (13843970897 ^ 1 * 1)) (R := 583430) (a := 2) (f := 53) (by kernel_rfl) fun q hq hd => by
  rcases dvd_cons p_115 hq hd with h | hd
  · subst h; kernel_rfl
  exact hq.not_one hd
theorem p_117 : Pr 726928914639303991 := pockC (F := (8076987940436711 ^ 1 * 1)) (R := 90) (a := 2) (f := 60) (by kernel_rfl) fun q hq hd => by
  rcases dvd_cons p_116 hq hd with h | hd
  · subst h; kernel_rfl
  exact hq.not_one hd
theorem p_118 : Pr 12811352796235023217778801482819 := pockC (F := (726928914639303991 ^ 1 * 1)) (R := 17623941678798) (a := 2) (f := 104) (by kernel_rfl) fun q hq hd => by
  rcases dvd_cons p_117 hq hd with h | hd
  · subst h; kernel_rfl
  exact hq.not_one hd
theorem p_119 : Pr 13857381403312519376221497559214358876512960238914501360589056738895920081 := pockC (F := (9511259360250244436150360929400467 ^ 1 * (12811352796235023217778801482819 ^ 1 * 1))) (R := 113722960) (a := 2) (f := 243) (by kernel_rfl) fun q hq hd => by
  rcases dvd_cons p_111 hq hd with h | hd
  · subst h; kernel_rfl
  rcases dvd_cons p_118 hq hd with h | hd
  · subst h; kernel_rfl
  exact hq.not_one hd
theorem p_120 : Pr 21659270770119316173069236842332604979796116387017648600081618503821089934025961822236561982844534088440708417973331 := pockC (F := (13857381403312519376221497559214358876512960238914501360589056738895920081 ^ 1 * 1)) (R := 1563013251907882429420135878444621479658930) (a := 2) (f := 384) (by kernel_rfl) fun q hq hd => by
  rcases dvd_cons p_119 hq hd with h | hd
  · subst h; kernel_rfl
  exact hq.not_one hd
theorem q_251 : Pr 251 := pr_small (k := 15) (by decide) (by decide) (by kernel_rfl)
theorem q_241 : Pr 241 := pr_small (k := 15) (by decide) (by decide) (by kernel_rfl)
theorem q_239 : Pr 239 := pr_small (k := 15) (by decide) (by decide) (by kernel_rfl)
theorem pr_P192 : Pr 0xfffffffffffffffffffffffffffffffeffffffffffffffff := p_8
theorem pr_P224 : Pr 0xffffffffffffffffffffffffffffffff000000000000000000000001 := p_16
theorem pr_P256 : Pr 0xffffffff00000001000000000000000000000000ffffffffffffffffffffffff := p_26
theorem pr_P384 : Pr 0xfffffffffffffffffffffffffffffffffffffffffffffffffffffffffffffffeffffffff0000000000000000ffffffff := p_43
theorem pr_P521 : Pr 0x1ffffffffffffffffffffffffffffffffffffffffffffffffffffffffffffffffffffffffffffffffffffffffffffffffffffffffffffffffffffffffffffffffff := p_62
theorem pr_K256 : Pr 0xfffffffffffffffffffffffffffffffffffffffffffffffffffffffefffffc2f := p_71
theorem pr_B160 : Pr 0xe95e4a5f737059dc60dfc7ad95b3d8139515620f := p_78
theorem pr_B224 : Pr 0xd7c134aa264366862a18302575d1d787b09f075797da89f57ec8c0ff := p_86
theorem pr_B256 : Pr 0xa9fb57dba1eea9bc3e660a909d838d726e3bf623d52620282013481d1f6e5377 := p_94
theorem pr_B320 : Pr 0xd35e472036bc4fb7e13c785ed201e065f98fcfa6f6f40def4f92b9ec7893ec28fcd412b1f1b32e27 := p_106
theorem pr_B384 : Pr 0x8cb91e82a3386d280f5d6f7e50e641df152f7109ed5456b412b1da197fb71123acd3a729901d1a71874700133107ec53 := p_120
theorem pr_T1 : Pr 0xfb := q_251
theorem pr_T2 : Pr 0xf1 := q_241
theorem pr_T3 : Pr 0xef := q_239

theorem qx_4188433 : Pr 4188433 := pr_small (k := 2046) (by decide) (by decide) (by kernel_rfl)
theorem px_1 : Pr 20020709741 := pockC (F := (4188433 ^ 1 * 1)) (R := 4780) (a := 2) (f := 35) (by kernel_rfl) fun q hq hd => by
  rcases dvd_cons qx_4188433 hq hd with h | hd
  · subst h; kernel_rfl
  exact hq.not_one hd
theorem px_2 : Pr 400414194821 := pockC (F := (20020709741 ^ 1 * 1)) (R := 20) (a := 2) (f := 39) (by kernel_rfl) fun q hq hd => by
  rcases dvd_cons px_1 hq hd with h | hd
  · subst h; kernel_rfl
  exact hq.not_one hd
theorem px_3 : Pr 31232307196039 := pockC (F := (400414194821 ^ 1 * 1)) (R := 78) (a := 2) (f := 45) (by kernel_rfl) fun q hq hd => by
  rcases dvd_cons px_2 hq hd with h | hd
  · subst h; kernel_rfl
  exact hq.not_one hd
theorem px_4 : Pr 4684846079405851 := pockC (F := (31232307196039 ^ 1 * 1)) (R := 150) (a := 2) (f := 53) (by kernel_rfl) fun q hq hd => by
  rcases dvd_cons px_3 hq hd with h | hd
  · subst h; kernel_rfl
  exact hq.not_one hd
theorem qx_37657 : Pr 37657 := pr_small (k := 194) (by decide) (by decide) (by kernel_rfl)
theorem qx_15511 : Pr 15511 := pr_small (k := 124) (by decide) (by decide) (by kernel_rfl)
theorem px_7 : Pr 2234757903503 := pockC (F := (37657 ^ 1 * (15511 ^ 1 * 1))) (R := 3826) (a := 2) (f := 42) (by kernel_rfl) fun q hq hd => by
  rcases dvd_cons qx_37657 hq hd with h | hd
  · subst h; kernel_rfl
  rcases dvd_cons qx_15511 hq hd with h | hd
  · subst h; kernel_rfl
  exact hq.not_one hd
theorem px_8 : Pr 57034811399347976721726973543287819857845741391551 := pockC (F := (4684846079405851 ^ 1 * (2234757903503 ^ 1 * 1))) (R := 5447712767334378241350) (a := 2) (f := 166) (by kernel_rfl) fun q hq hd => by
  rcases dvd_cons px_4 hq hd with h | hd
  · subst h; kernel_rfl
  rcases dvd_cons px_7 hq hd with h | hd
  · subst h; kernel_rfl
  exact hq.not_one hd
theorem px_9 : Pr 297968944203544716575901889872036237935261750341463572996351910423 := pockC (F := (57034811399347976721726973543287819857845741391551 ^ 1 * 1)) (R := 5224334698281322) (a := 2) (f := 218) (by kernel_rfl) fun q hq hd => by
  rcases dvd_cons px_8 hq hd with h | hd
  · subst h; kernel_rfl
  exact hq.not_one hd
theorem px_10 : Pr 14435454750020088047685444818571282397270727096595623715684950293729763357371155607979 := pockC (F := (297968944203544716575901889872036237935261750341463572996351910423 ^ 1 * 1)) (R := 48446172095569549286) (a := 2) (f := 283) (by kernel_rfl) fun q hq hd => by
  rcases dvd_cons px_9 hq hd with h | hd
  · subst h; kernel_rfl
  exact hq.not_one hd
theorem px_11 : Pr 8948962207650232551656602815159153422162609644098354511344597187200057010413552439917934304191956942765446530386427345937963894309923928536070534607816947 := pockC (F := (14435454750020088047685444818571282397270727096595623715684950293729763357371155607979 ^ 1 * 1)) (R := 619929358833519212904238285194463795991522700945465902230062873103574) (a := 2) (f := 512) (by kernel_rfl) fun q hq hd => by
  rcases dvd_cons px_10 hq hd with h | hd
  · subst h; kernel_rfl
  exact hq.not_one hd
theorem pr_B512 : Pr 0xaadd9db8dbe9c48b3fd4e6ae33c9fc07cb308db3b3c9d20ed6639cca703308717d4d9b009bc66842aecda12ae6a380e62881ff2f2d82c68528aa6056583a48f3 := px_11

end Mir

namespace Mir

theorem mul_mod2 (a b p : Nat) : a % p * (b % p) % p = a * b % p := (Nat.mul_mod a b p).symm
theorem pow2_sq (t j p : Nat) : t ^ 2 ^ j % p * (t ^ 2 ^ j % p) % p = t ^ 2 ^ (j + 1) % p := by
  rw [mul_mod2, ← Nat.pow_add, Nat.pow_succ 2, Nat.mul_two]
theorem pow_pow_mod (t i j p : Nat) : (t ^ i % p) ^ j % p = t ^ (i * j) % p := by
  rw [← Nat.pow_mod, ← Nat.pow_mul]

/-- The roots of 1. -/
theorem Pr.root_one {p y : Nat} (hp : Pr p) (hy : y < p) (h : y * y % p = 1) : y = 1 ∨ y = p - 1 := by
  have h2 := hp.1
  have h0 : y ≠ 0 := by intro h0; rw [h0, Nat.zero_mul, Nat.zero_mod] at h; omega
  have e : y * y = (y - 1) * (y + 1) + 1 := by
    obtain ⟨w, hw⟩ : ∃ w, y = w + 1 := ⟨y - 1, by omega⟩
    subst hw
    rw [Nat.add_sub_cancel]
    grind
  have hd : p ∣ (y - 1) * (y + 1) := by
    have h1 : ((y - 1) * (y + 1) + 1) % p = 1 % p := by rw [← e, h, Nat.mod_eq_of_lt h2]
    have h3 := (mod_eq_dvd (a := 1) (b := (y - 1) * (y + 1) + 1) (by omega) h1.symm)
    rw [Nat.add_sub_cancel] at h3
    exact h3
  rcases hp.euclid hd with h1 | h1
  · have := Nat.eq_zero_of_dvd_of_lt h1 (by omega)
    exact .inl (by omega)
  · rcases Nat.lt_or_ge (y + 1) p with h3 | h3
    · have := Nat.eq_zero_of_dvd_of_lt h1 h3
      omega
    · exact .inr (by omega)

theorem neg_neg_mod {p : Nat} (hp : 1 < p) : (p - 1) * (p - 1) % p = 1 := by
  obtain ⟨w, hw⟩ : ∃ w, p = w + 2 := ⟨p - 2, by omega⟩
  subst hw
  have : (w + 2 - 1) * (w + 2 - 1) = 1 + (w + 2) * w := by rw [show w + 2 - 1 = w + 1 by omega]; grind
  rw [this, Nat.add_mul_mod_self_left, Nat.mod_eq_of_lt hp]
theorem Pr.mul_ne {p a b : Nat} (hp : Pr p) (ha : a < p) (hb : b < p) (ha0 : a ≠ 0) (hb0 : b ≠ 0) : a * b % p ≠ 0 := fun h => by
  rcases hp.euclid (Nat.dvd_of_mod_eq_zero h) with h1 | h1
  · have := Nat.eq_zero_of_dvd_of_lt h1 ha; omega
  · have := Nat.eq_zero_of_dvd_of_lt h1 hb; omega
structure Ts where
  m : Nat
  c : Nat
  x : Nat
  t : Nat

/-- How often to square until 1 is left. -/
def lk (p : Nat) : Nat → Nat → Nat
  | 0, _ => 0
  | n + 1, t => if t = 1 then 0 else 1 + lk p n (t * t % p)
theorem lk_le (p : Nat) : ∀ n t, lk p n t ≤ n
  | 0, _ => Nat.le_refl _
  | n + 1, t => by
    have := lk_le p n (t * t % p)
    rw [lk]; split <;> omega
theorem lk_ok {p : Nat} (hp : 1 < p) : ∀ n t, t < p → t ^ 2 ^ n % p = 1 → t ^ 2 ^ lk p n t % p = 1 ∧ ∀ j, j < lk p n t → t ^ 2 ^ j % p ≠ 1
  | 0, t, ht, h => ⟨h, fun j hj => absurd hj (by simp [lk])⟩
  | n + 1, t, ht, h => by
    rw [lk]
    by_cases h1 : t = 1
    · rw [if_pos h1]
      exact ⟨by rw [h1, Nat.one_pow, Nat.mod_eq_of_lt hp], fun j hj => by omega⟩
    · rw [if_neg h1]
      have e : ∀ j, (t * t % p) ^ 2 ^ j % p = t ^ 2 ^ (j + 1) % p := fun j => by
        rw [← Nat.pow_mod, ← Nat.pow_two, ← Nat.pow_mul, Nat.pow_succ 2, Nat.mul_comm 2]
      obtain ⟨i1, i2⟩ := lk_ok hp n (t * t % p) (Nat.mod_lt _ (by omega)) (by rw [e]; exact h)
      refine ⟨by rw [Nat.add_comm, ← e]; exact i1, fun j hj => ?_⟩
      cases j with
      | zero => simpa [Nat.mod_eq_of_lt ht] using h1
      | succ j => rw [← e]; exact i2 j (by omega)

def tsStep (p : Nat) (u : Ts) : Ts :=
  ⟨lk p u.m u.t, u.c ^ 2 ^ (u.m - lk p u.m u.t - 1) % p * (u.c ^ 2 ^ (u.m - lk p u.m u.t - 1) % p) % p, u.x * (u.c ^ 2 ^ (u.m - lk p u.m u.t - 1) % p) % p,
    u.t * (u.c ^ 2 ^ (u.m - lk p u.m u.t - 1) % p * (u.c ^ 2 ^ (u.m - lk p u.m u.t - 1) % p) % p) % p⟩
structure TsOk (a p : Nat) (u : Ts) : Prop where
  m1 : 1 ≤ u.m
  c : u.c < p
  x : u.x < p
  t : u.t < p
  sq : u.x * u.x % p = a * u.t % p
  c1 : u.c ^ 2 ^ (u.m - 1) % p = p - 1
  t1 : u.t ^ 2 ^ (u.m - 1) % p = 1

theorem TsOk.lk {a p : Nat} {u : Ts} (hp : Pr p) (h : TsOk a p u) (h1 : u.t ≠ 1) : 1 ≤ lk p u.m u.t ∧ lk p u.m u.t < u.m ∧ u.t ^ 2 ^ lk p u.m u.t % p = 1 ∧ ∀ j, j < lk p u.m u.t → u.t ^ 2 ^ j % p ≠ 1 := by
  have h2 := hp.1
  have m1 := h.m1
  have e : u.t ^ 2 ^ u.m % p = 1 := by
    have := pow2_sq u.t (u.m - 1) p
    rw [h.t1, show u.m - 1 + 1 = u.m by omega] at this
    rw [← this, Nat.one_mul, Nat.mod_eq_of_lt (by omega)]
  obtain ⟨i1, i2⟩ := lk_ok (p := p) (by omega) u.m u.t h.t e
  have hle := lk_le p u.m u.t
  refine ⟨?_, ?_, i1, i2⟩
  · rcases Nat.eq_zero_or_pos (Mir.lk p u.m u.t) with h3 | h3
    · rw [h3, Nat.pow_zero, Nat.pow_one, Nat.mod_eq_of_lt h.t] at i1
      exact absurd i1 h1
    · exact h3
  · rcases Nat.lt_or_ge (u.m - 1) (Mir.lk p u.m u.t) with h3 | h3
    · exact absurd h.t1 (i2 _ h3)
    · omega

theorem TsOk.step {a p : Nat} {u : Ts} (hp : Pr p) (h : TsOk a p u) (h1 : u.t ≠ 1) : TsOk a p (tsStep p u) := by
  obtain ⟨k1, k2, k3, k4⟩ := h.lk hp h1
  have h2 := hp.1
  have hpos : 0 < p := by omega
  unfold tsStep
  obtain ⟨k, hk⟩ : ∃ k, k = Mir.lk p u.m u.t := ⟨_, rfl⟩
  rw [← hk] at k1 k2 k3 k4 ⊢
  obtain ⟨b, hb⟩ : ∃ b, b = u.c ^ 2 ^ (u.m - k - 1) % p := ⟨_, rfl⟩
  rw [← hb]
  have eb : (b * b % p) ^ 2 ^ (k - 1) % p = p - 1 := by
    rw [← Nat.pow_mod, ← Nat.pow_two, ← Nat.pow_mul, ← Nat.pow_succ', show (k - 1).succ = k by omega, hb, pow_pow_mod, ← Nat.pow_add, show u.m - k - 1 + k = u.m - 1 by omega]
    exact h.c1
  have et : u.t ^ 2 ^ (k - 1) % p = p - 1 := by
    rcases hp.root_one (y := u.t ^ 2 ^ (k - 1) % p) (Nat.mod_lt _ hpos) (by rw [pow2_sq, show k - 1 + 1 = k by omega]; exact k3) with h3 | h3
    · exact absurd h3 (k4 _ (by omega))
    · exact h3
  refine ⟨k1, Nat.mod_lt _ hpos, Nat.mod_lt _ hpos, Nat.mod_lt _ hpos, ?_, eb, ?_⟩
  · show u.x * b % p * (u.x * b % p) % p = a * (u.t * (b * b % p) % p) % p
    rw [mul_mod2, Nat.mul_mod_mod, show u.x * b * (u.x * b) = u.x * u.x * (b * b) by grind, ← Nat.mod_mul_mod, h.sq, Nat.mod_mul_mod]
    rw [show a * (u.t * (b * b % p)) = a * u.t * (b * b % p) by grind, Nat.mul_mod_mod]
  · show (u.t * (b * b % p) % p) ^ 2 ^ (k - 1) % p = 1
    rw [← Nat.pow_mod, Nat.mul_pow, ← mul_mod2, et, eb, neg_neg_mod (by omega)]

/-- What the search begins with. -/
def tsZero (a p s z : Nat) : Ts := ⟨s, z ^ ((p - 1) / 2 ^ s) % p, a ^ (((p - 1) / 2 ^ s + 1) / 2) % p, a ^ ((p - 1) / 2 ^ s) % p⟩
end Mir

namespace Mir

def fldL (p : Nat) : List V := us 64 (dl 64 9 p) ++ [dvm p]
abbrev fld (p : Nat) : V := .vr (fldL p) 0
theorem fld_len (p : Nat) : (fldL p).length = 10 := by simp [fldL, us_len, dl_len]
theorem fld_p (p : Nat) : part (fldL p) 0 (some 9) = some (natv p) := by
  simp only [part, fld_len]
  rw [if_pos (by omega)]
  simp only [fldL, List.drop_zero]
  rw [List.take_append_of_le_length (by rw [us_len, dl_len]; omega), List.take_of_length_le (by rw [us_len, dl_len]; omega)]
theorem fld_by (p : Nat) : part (fldL p) 9 (some 1) = some (.agg [dvm p]) := by
  simp only [part, fld_len]
  rw [if_pos (by omega)]
  simp only [fldL]
  rw [List.drop_append_of_le_length (by rw [us_len, dl_len]; omega), List.drop_of_length_le (by rw [us_len, dl_len]; omega)]
  rfl
theorem dvm_noHp (p k : Nat) : noHp (k + 2) (dvm p) = true := by
  show (dvl _ _ _).all (noHp (k + 1)) = true
  rw [dvl, List.all_append, us_noHp]; rfl
theorem fld_noHp (p k : Nat) : noHp (k + 3) (fld p) = true := by
  show (fldL p).all (noHp (k + 2)) = true
  rw [fldL, List.all_append, us_noHp, List.all_cons, dvm_noHp]; rfl

section
variable {p a b : Nat} (hp : p < M) (h0 : 0 < p)
include hp

theorem r_Has (ha : a < M) : Run T f_field_Field_Has [fld p, natv a] [] = some (.b (decide (a < p)), []) := by
  rw [Run_at T _ (show T f_field_Field_Has = some m_field_Field_Has from rfl)]
  simp only [c_field_Field_Has]
  have c1 := r_natCmp ha hp
  have d1 : decide (cmpI a p < 0) = decide (a < p) := by
    unfold cmpI
    by_cases h : a < p
    · rw [if_pos h]; simp [h]
    · rw [if_neg h]
      split <;> simp [h]
  have k1 := fld_p p
  obtain ⟨X, hX⟩ : ∃ X, X = fldL p := ⟨_, rfl⟩
  simp only [fld]
  rw [← hX] at k1 ⊢
  simp only [EE,EX,Nat.reduceLeDiff,Nat.reduceEqDiff,Int.reduceEq,reduceCtorEq,Nat.reduceAdd,Nat.reduceMul,if_true,if_false,decide_true,decide_false, k1, c1, d1, natv_noHp]

theorem r_FAdd (ha : a < p) (hb : b < p) : Run T f_field_Field_Add [fld p, natv a, natv b] [] = some (natv ((a + b) % p), []) := by
  rw [Run_at T _ (show T f_field_Field_Add = some m_field_Field_Add from rfl)]
  simp only [c_field_Field_Add]
  simp only [zero9]
  have c1 := r_natAdd (x := a) (y := b) (by omega) (by omega)
  have hcM : (a + b) % M < M := Nat.mod_lt _ (by omega)
  have c2 := r_natSub hcM hp
  have k1 := fld_p p
  obtain ⟨X, hX⟩ : ∃ X, X = fldL p := ⟨_, rfl⟩
  simp only [fld]
  rw [← hX] at k1 ⊢
  by_cases h1 : M ≤ a + b
  · have d1 : decide (M ≤ a + b) = true := decide_eq_true h1
    have e1 : (a + b) % M = a + b - M := by rw [Nat.mod_eq_sub_mod h1, Nat.mod_eq_of_lt (by omega)]
    have e2 : ((a + b) % M + M - p) % M = (a + b) % p := by
      rw [e1, Nat.mod_eq_of_lt (by omega), Nat.mod_eq_sub_mod (show p ≤ a + b by omega), Nat.mod_eq_of_lt (a := a + b - p) (by omega)]
      omega
    rw [e2] at c2
    rw [d1] at c1
    obtain ⟨y, hy⟩ : ∃ y, y = (a + b) % M := ⟨_, rfl⟩
    rw [← hy] at c1 c2
    simp only [EE,EX,Nat.reduceLeDiff,Nat.reduceEqDiff,Int.reduceEq,reduceCtorEq,Nat.reduceAdd,Nat.reduceMul,if_true,if_false,decide_true,decide_false, k1, c1, c2, natv_noHp]
  · have d1 : decide (M ≤ a + b) = false := decide_eq_false h1
    have e1 : (a + b) % M = a + b := Nat.mod_eq_of_lt (by omega)
    rw [d1, e1] at c1
    rw [e1] at c2
    by_cases h2 : a + b < p
    · have d2 : decide (a + b < p) = true := decide_eq_true h2
      rw [d2] at c2
      rw [Nat.mod_eq_of_lt h2]
      obtain ⟨y, hy⟩ : ∃ y, y = a + b := ⟨_, rfl⟩
      rw [← hy] at c1 c2 ⊢
      simp only [EE,EX,Nat.reduceLeDiff,Nat.reduceEqDiff,Int.reduceEq,reduceCtorEq,Nat.reduceAdd,Nat.reduceMul,if_true,if_false,decide_true,decide_false, k1, c1, c2, natv_noHp, Bool.not_true, Bool.not_false]
    · have d2 : decide (a + b < p) = false := decide_eq_false h2
      have e2 : (a + b + M - p) % M = (a + b) % p := by
        rw [show a + b + M - p = a + b - p + M by omega, Nat.add_mod_right, Nat.mod_eq_of_lt (by omega), Nat.mod_eq_sub_mod (show p ≤ a + b by omega), Nat.mod_eq_of_lt (a := a + b - p) (by omega)]
      rw [d2, e2] at c2
      obtain ⟨y, hy⟩ : ∃ y, y = a + b := ⟨_, rfl⟩
      rw [← hy] at c1 c2 ⊢
      simp only [EE,EX,Nat.reduceLeDiff,Nat.reduceEqDiff,Int.reduceEq,reduceCtorEq,Nat.reduceAdd,Nat.reduceMul,if_true,if_false,decide_true,decide_false, k1, c1, c2, natv_noHp, Bool.not_true, Bool.not_false]

theorem r_FSub (ha : a < p) (hb : b < p) : Run T f_field_Field_Sub [fld p, natv a, natv b] [] = some (natv ((a + p - b) % p), []) := by
  rw [Run_at T _ (show T f_field_Field_Sub = some m_field_Field_Sub from rfl)]
  simp only [c_field_Field_Sub]
  simp only [zero9]
  have c1 := r_natSub (x := a) (y := b) (by omega) (by omega)
  have hcM : (a + M - b) % M < M := Nat.mod_lt _ (by omega)
  have c2 := r_natAdd hcM hp
  have k1 := fld_p p
  obtain ⟨X, hX⟩ : ∃ X, X = fldL p := ⟨_, rfl⟩
  simp only [fld]
  rw [← hX] at k1 ⊢
  by_cases h1 : a < b
  · have d1 : decide (a < b) = true := decide_eq_true h1
    have e1 : (a + M - b) % M = a + M - b := Nat.mod_eq_of_lt (by omega)
    have e2 : ((a + M - b) % M + p) % M = (a + p - b) % p := by
      rw [e1, Nat.mod_eq_of_lt (a := a + p - b) (by omega), show a + M - b + p = a + p - b + M by omega, Nat.add_mod_right, Nat.mod_eq_of_lt (by omega)]
    rw [e2] at c2
    rw [d1] at c1
    obtain ⟨y, hy⟩ : ∃ y, y = (a + M - b) % M := ⟨_, rfl⟩
    rw [← hy] at c1 c2
    obtain ⟨z, hz⟩ : ∃ z, z = decide (M ≤ y + p) := ⟨_, rfl⟩
    rw [← hz] at c2
    simp only [EE,EX,Nat.reduceLeDiff,Nat.reduceEqDiff,Int.reduceEq,reduceCtorEq,Nat.reduceAdd,Nat.reduceMul,if_true,if_false,decide_true,decide_false, k1, c1, c2, natv_noHp]
  · have d1 : decide (a < b) = false := decide_eq_false h1
    have e1 : (a + M - b) % M = (a + p - b) % p := by
      rw [show a + M - b = a - b + M by omega, Nat.add_mod_right, Nat.mod_eq_of_lt (by omega), show a + p - b = a - b + p by omega, Nat.add_mod_right, Nat.mod_eq_of_lt (by omega)]
    rw [d1, e1] at c1
    simp only [EE,EX,Nat.reduceLeDiff,Nat.reduceEqDiff,Int.reduceEq,reduceCtorEq,Nat.reduceAdd,Nat.reduceMul,if_true,if_false,decide_true,decide_false, k1, c1, natv_noHp]

include h0
theorem r_FMul (ha : a < M) (hb : b < M) : Run T f_field_Field_Mul [fld p, natv a, natv b] [] = some (natv (a * b % p), []) := by
  rw [Run_at T _ (show T f_field_Field_Mul = some m_field_Field_Mul from rfl)]
  simp only [c_field_Field_Mul]
  simp only [zero9]
  have c1 := r_ModMul ha hb hp (by omega)
  have k1 := fld_by p
  have n1 : noHp 8 (.agg [dvm p]) = true := by
    show (noHp 7 (dvm p) && true) = true
    rw [dvm_noHp]; rfl
  obtain ⟨X, hX⟩ : ∃ X, X = fldL p := ⟨_, rfl⟩
  simp only [fld]
  rw [← hX] at k1 ⊢
  obtain ⟨D, hD⟩ : ∃ D, D = [dvm p] := ⟨_, rfl⟩
  rw [← hD] at k1 c1 n1
  simp only [EE,EX,Nat.reduceLeDiff,Nat.reduceEqDiff,Int.reduceEq,reduceCtorEq,Nat.reduceAdd,Nat.reduceMul,if_true,if_false,decide_true,decide_false, k1, c1, n1, natv_noHp]
end

end Mir

namespace Mir

theorem or_above4 {v d q r : Nat} (hv : v < 2 ^ (64 * q + r)) (hd : d < 16) (hr : r ≤ 60) : tb 9 (fun j => if j = q then v / 2 ^ (64 * q) % 2 ^ 64 ||| d * 2 ^ r % 2 ^ 64 else v / 2 ^ (64 * j) % 2 ^ 64) = dl 64 9 (v + d * 2 ^ (64 * q + r)) := tb_congr fun j hj => by
  have hB : 0 < 2 ^ (64 * q) := Nat.two_pow_pos _
  rcases Nat.lt_trichotomy j q with h | h | h
  · rw [if_neg (by omega)]
    have e : d * 2 ^ (64 * q + r) = 2 ^ (64 * j) * (2 ^ 64 * (2 ^ (64 * (q - j - 1) + r) * d)) := by
      rw [← Nat.mul_assoc, ← Nat.mul_assoc, ← Nat.pow_add, ← Nat.pow_add, Nat.mul_comm]; congr 2; omega
    rw [e, Nat.add_mul_div_left _ _ (Nat.two_pow_pos _), Nat.add_mul_mod_self_left]
  · rw [if_pos h, h]
    have h1 : v / 2 ^ (64 * q) < 2 ^ r := by
      rw [Nat.div_lt_iff_lt_mul hB, ← Nat.pow_add, Nat.add_comm]; exact hv
    have h2 : 2 ^ r ≤ 2 ^ 60 := Nat.pow_le_pow_right (by omega) hr
    have h3 : d * 2 ^ r ≤ 15 * 2 ^ r := Nat.mul_le_mul_right _ (by omega)
    have e : d * 2 ^ (64 * q + r) = 2 ^ (64 * q) * (d * 2 ^ r) := by rw [Nat.pow_add, Nat.mul_left_comm]
    rw [e, Nat.add_mul_div_left _ _ hB, Nat.mod_eq_of_lt (a := v / 2 ^ (64 * q)) (by omega), Nat.mod_eq_of_lt (a := d * 2 ^ r) (by omega), Nat.mod_eq_of_lt (by omega)]
    rw [Nat.or_comm, Nat.mul_comm d, ← Nat.two_pow_add_eq_or_of_lt h1, Nat.add_comm]
  · rw [if_neg (by omega)]
    have e1 : 2 ^ (64 * j) = 2 ^ (64 * q) * (2 ^ 64 * 2 ^ (64 * (j - q - 1))) := by
      rw [← Nat.pow_add, ← Nat.pow_add]; congr 1; omega
    have h5 : v + d * 2 ^ (64 * q + r) < 2 ^ (64 * j) := by
      have h1 : d * 2 ^ (64 * q + r) ≤ 15 * 2 ^ (64 * q + r) := Nat.mul_le_mul_right _ (by omega)
      have h2 : 2 ^ 4 * 2 ^ (64 * q + r) ≤ 2 ^ (64 * j) := by rw [← Nat.pow_add]; exact Nat.pow_le_pow_right (by omega) (by omega)
      omega
    rw [Nat.div_eq_of_lt h5, Nat.div_eq_of_lt (Nat.lt_of_le_of_lt (Nat.le_add_right _ _) h5)]


/-- A digit's worth; is a byte a digit? -/
def hd (c : Nat) : Nat := if 97 ≤ c then c - 97 + 10 else c - 48
def isHex (c : Nat) : Bool := (Nat.ble 48 c && Nat.ble c 57) || (Nat.ble 97 c && Nat.ble c 102)
theorem isHex_ok {c : Nat} (h : isHex c = true) : hd c < 16 ∧ ((97 ≤ c ∧ c ≤ 102) ∨ (48 ≤ c ∧ c ≤ 57)) := by
  simp only [isHex, Bool.or_eq_true, Bool.and_eq_true, Nat.ble_eq] at h
  unfold hd
  rcases h with h | h
  · rw [if_neg (by omega)]; exact ⟨by omega, .inr h⟩
  · rw [if_pos (by omega)]; exact ⟨by omega, .inl h⟩

/-- The number of the lowest digits of so many. -/
def hb (n : Nat) (f : Nat → Nat) : Nat → Nat
  | 0 => 0
  | i + 1 => hb n f i + f (n - 1 - i) * 2 ^ (4 * i)
theorem hb_lt {n : Nat} {f : Nat → Nat} (hf : ∀ j, j < n → f j < 16) : ∀ i, i ≤ n → hb n f i < 2 ^ (4 * i)
  | 0, _ => by simp [hb]
  | i + 1, h => by
    have ih := hb_lt hf i (by omega)
    have h1 := hf (n - 1 - i) (by omega)
    have h2 : f (n - 1 - i) * 2 ^ (4 * i) ≤ 15 * 2 ^ (4 * i) := Nat.mul_le_mul_right _ (by omega)
    rw [hb, Nat.mul_succ, Nat.pow_add]
    omega
theorem r_fHex {n : Nat} {s : List Nat} {f : Nat → Nat} (hn : n ≤ 144) (hs : s.length = n) (hx : ∀ j, j < n → ∃ c, s[j]? = some c ∧ isHex c = true ∧ f j = hd c) : Run T f_field_Hex [.s s] [] = some (natv (hb n f n), []) := by
  rw [Run_at T _ (show T f_field_Hex = some m_field_Hex from rfl)]
  simp only [c_field_Hex, zero9]
  have k1 : decide (n < 9223372036854775808) = true := by simp; omega
  have hf : ∀ j, j < n → f j < 16 := fun j hj => by
    obtain ⟨c, _, h2, h3⟩ := hx j hj
    rw [h3]; exact (isHex_ok h2).1
  simp only [EE,EX,Nat.reduceLeDiff,Nat.reduceEqDiff,Int.reduceEq,reduceCtorEq,Nat.reduceAdd,Nat.reduceMul,if_true,if_false,decide_true,decide_false, hs, k1]
  rw [loop_use T (fun i => ⟨[(0, .s s), (2, .loc (us 64 (dl 64 9 0))), (3, .loc (us 64 (dl 64 9 (hb n f i)))), (8, .i (n : Int)), (9, .i (i : Int))], []⟩) n
    (.exit 0, ⟨[(2, .loc (us 64 (dl 64 9 0))), (3, .loc (us 64 (dl 64 9 (hb n f n))))], []⟩) ?h0 (by simp) ?hs ?hn]
  · simp only [EE,EX,Nat.reduceLeDiff,Nat.reduceEqDiff,Int.reduceEq,reduceCtorEq,Nat.reduceAdd,Nat.reduceMul,if_true,if_false,decide_true,decide_false]
  · rfl
  · intro i hi
    obtain ⟨q, hq⟩ : ∃ q, q = i / 16 := ⟨_, rfl⟩
    obtain ⟨r, hr⟩ : ∃ r, r = i % 16 := ⟨_, rfl⟩
    obtain ⟨r4, hr4⟩ : ∃ r4, r4 = 4 * r := ⟨_, rfl⟩
    obtain ⟨n1, hn1⟩ : ∃ n1, n1 = n - 1 := ⟨_, rfl⟩
    obtain ⟨j, hj⟩ : ∃ j, j = n - 1 - i := ⟨_, rfl⟩
    obtain ⟨v, hv⟩ : ∃ v, v = hb n f i := ⟨_, rfl⟩
    have hvl : v < 2 ^ (64 * q + r4) := by rw [hv, show 64 * q + r4 = 4 * i by omega]; exact hb_lt hf i (by omega)
    have hfj := hf j (by omega)
    have hor := or_above4 hvl hfj (by omega)
    have hstep : hb n f (i + 1) = v + f j * 2 ^ (64 * q + r4) := by rw [hb, hv, hj, show 64 * q + r4 = 4 * i by omega]
    rw [hstep, ← hor, ← hv]
    obtain ⟨c, g1, g2, g3⟩ := hx j (by omega)
    obtain ⟨_, g4⟩ := isHex_ok g2
    have l1 : decide ((i : Int) < (n : Int)) = true := by simp; omega
    have l2 : F (w64 ((n : Int) - 1)) (n1 : Int) := ⟨by unfold w64; omega⟩
    have l3 : F (w64 ((n1 : Int) - (i : Int))) (j : Int) := ⟨by unfold w64; omega⟩
    have l4 : F (w64 (Int.tdiv (i : Int) 16)) (q : Int) := ⟨by rw [Int.tdiv_eq_ediv_of_nonneg (by omega)]; unfold w64; omega⟩
    have l5 : F (Int.tmod (i : Int) 16) (r : Int) := ⟨by rw [Int.tmod_eq_emod_of_nonneg (by omega)]; omega⟩
    have l6 : F (w64 (4 * (r : Int))) (r4 : Int) := ⟨by rw [hr4]; unfold w64; omega⟩
    have l7 : F (min r4 64) r4 := ⟨by omega⟩
    have l8 := ixOf_nat (show q < 9 by omega)
    have l9 := dl_part (x := v) (show q < 9 by omega)
    have l10 := ixOf_nat (show j < n by omega)
    have l13 : (q + 1 ≤ 9) = True := by simp; omega
    have l14 : F (w64 ((i : Int) + 1)) ((i + 1 : Nat) : Int) := ⟨by unfold w64; omega⟩
    have l15 : ∀ z, (us 64 (dl 64 9 v)).set q (.u 64 z) = us 64 (tb 9 fun a => if a = q then z else v / 2 ^ (64 * a) % 2 ^ 64) := fun z => by
      rw [us_set, dl, tb_set]
    rcases g4 with g4 | g4
    · have d1 : decide (97 ≤ c) = true := decide_eq_true g4.1
      have l11 : F ((c + 2 ^ 8 - 48) % 2 ^ 8 % 2 ^ 64) (c - 48) := ⟨by omega⟩
      have l12 : F ((c + 2 ^ 8 - 97) % 2 ^ 8 % 2 ^ 64) (c - 97) := ⟨by omega⟩
      have l16 : F ((c - 97 + 10) % 2 ^ 64) (f j) := ⟨by rw [g3, hd, if_pos g4.1]; omega⟩
      simp only [EE,EX,Nat.reduceLeDiff,Nat.reduceEqDiff,Int.reduceEq,reduceCtorEq,Nat.reduceAdd,Nat.reduceMul,if_true,if_false,decide_true,decide_false, hs, k1, l1, l2.eq, l3.eq, l4.eq, l5.eq, l6.eq, l7.eq, l8, l9, l10, g1, d1, l11.eq, l12.eq, l16.eq, l13, l14.eq, l15]
    · have d1 : decide (97 ≤ c) = false := decide_eq_false (by omega)
      have l11 : F ((c + 2 ^ 8 - 48) % 2 ^ 8 % 2 ^ 64) (f j) := ⟨by rw [g3, hd, if_neg (by omega)]; omega⟩
      simp only [EE,EX,Nat.reduceLeDiff,Nat.reduceEqDiff,Int.reduceEq,reduceCtorEq,Nat.reduceAdd,Nat.reduceMul,if_true,if_false,decide_true,decide_false, hs, k1, l1, l2.eq, l3.eq, l4.eq, l5.eq, l6.eq, l7.eq, l8, l9, l10, g1, d1, l11.eq, l13, l14.eq, l15]
  · have l1 : decide ((n : Int) < (n : Int)) = false := by simp
    simp only [EE,EX,Nat.reduceLeDiff,Nat.reduceEqDiff,Int.reduceEq,reduceCtorEq,Nat.reduceAdd,Nat.reduceMul,if_true,if_false,decide_true,decide_false, l1, k1]

/-- A string's number. -/
def hv (s : List Nat) : Nat := hb s.length (fun j => hd (s.getD j 0)) s.length
theorem hex_get {s : List Nat} (h : s.all isHex = true) : ∀ j, j < s.length → ∃ c, s[j]? = some c ∧ isHex c = true ∧ (fun j => hd (s.getD j 0)) j = hd c := fun j hj => by
  refine ⟨s[j], by simp [hj], List.all_eq_true.1 h _ (List.getElem_mem hj), ?_⟩
  simp [hj]
theorem r_hv {s : List Nat} (hn : s.length ≤ 144) (h : s.all isHex = true) : Run T f_field_Hex [.s s] [] = some (natv (hv s), []) := r_fHex hn rfl (hex_get h)
end Mir

namespace Mir

/-- A curve's digits. -/
def cst : Nat → List (List Nat)
  | 1 => [[102, 102, 102, 102, 102, 102, 102, 102, 102, 102, 102, 102, 102, 102, 102, 102, 102, 102, 102, 102, 102, 102, 102, 102, 102, 102, 102, 102, 102, 102, 102, 101, 102, 102, 102, 102, 102, 102, 102, 102, 102, 102, 102, 102, 102, 102, 102, 102], [45], [54, 52, 50, 49, 48, 53, 49, 57, 101, 53, 57, 99, 56, 48, 101, 55, 48, 102, 97, 55, 101, 57, 97, 98, 55, 50, 50, 52, 51, 48, 52, 57, 102, 101, 98, 56, 100, 101, 101, 99, 99, 49, 52, 54, 98, 57, 98, 49], [102, 102, 102, 102, 102, 102, 102, 102, 102, 102, 102, 102, 102, 102, 102, 102, 102, 102, 102, 102, 102, 102, 102, 102, 57, 57, 100, 101, 102, 56, 51, 54, 49, 52, 54, 98, 99, 57, 98, 49, 98, 52, 100, 50, 50, 56, 51, 49], [49, 56, 56, 100, 97, 56, 48, 101, 98, 48, 51, 48, 57, 48, 102, 54, 55, 99, 98, 102, 50, 48, 101, 98, 52, 51, 97, 49, 56, 56, 48, 48, 102, 52, 102, 102, 48, 97, 102, 100, 56, 50, 102, 102, 49, 48, 49, 50], [48, 55, 49, 57, 50, 98, 57, 53, 102, 102, 99, 56, 100, 97, 55, 56, 54, 51, 49, 48, 49, 49, 101, 100, 54, 98, 50, 52, 99, 100, 100, 53, 55, 51, 102, 57, 55, 55, 97, 49, 49, 101, 55, 57, 52, 56, 49, 49]]
  | 2 => [[102, 102, 102, 102, 102, 102, 102, 102, 102, 102, 102, 102, 102, 102, 102, 102, 102, 102, 102, 102, 102, 102, 102, 102, 102, 102, 102, 102, 102, 102, 102, 102, 48, 48, 48, 48, 48, 48, 48, 48, 48, 48, 48, 48, 48, 48, 48, 48, 48, 48, 48, 48, 48, 48, 48, 49], [45], [98, 52, 48, 53, 48, 97, 56, 53, 48, 99, 48, 52, 98, 51, 97, 98, 102, 53, 52, 49, 51, 50, 53, 54, 53, 48, 52, 52, 98, 48, 98, 55, 100, 55, 98, 102, 100, 56, 98, 97, 50, 55, 48, 98, 51, 57, 52, 51, 50, 51, 53, 53, 102, 102, 98, 52], [102, 102, 102, 102, 102, 102, 102, 102, 102, 102, 102, 102, 102, 102, 102, 102, 102, 102, 102, 102, 102, 102, 102, 102, 102, 102, 102, 102, 49, 54, 97, 50, 101, 48, 98, 56, 102, 48, 51, 101, 49, 51, 100, 100, 50, 57, 52, 53, 53, 99, 53, 99, 50, 97, 51, 100], [98, 55, 48, 101, 48, 99, 98, 100, 54, 98, 98, 52, 98, 102, 55, 102, 51, 50, 49, 51, 57, 48, 98, 57, 52, 97, 48, 51, 99, 49, 100, 51, 53, 54, 99, 50, 49, 49, 50, 50, 51, 52, 51, 50, 56, 48, 100, 54, 49, 49, 53, 99, 49, 100, 50, 49], [98, 100, 51, 55, 54, 51, 56, 56, 98, 53, 102, 55, 50, 51, 102, 98, 52, 99, 50, 50, 100, 102, 101, 54, 99, 100, 52, 51, 55, 53, 97, 48, 53, 97, 48, 55, 52, 55, 54, 52, 52, 52, 100, 53, 56, 49, 57, 57, 56, 53, 48, 48, 55, 101, 51, 52]]
  | 3 => [[102, 102, 102, 102, 102, 102, 102, 102, 48, 48, 48, 48, 48, 48, 48, 49, 48, 48, 48, 48, 48, 48, 48, 48, 48, 48, 48, 48, 48, 48, 48, 48, 48, 48, 48, 48, 48, 48, 48, 48, 102, 102, 102, 102, 102, 102, 102, 102, 102, 102, 102, 102, 102, 102, 102, 102, 102, 102, 102, 102, 102, 102, 102, 102], [45], [53, 97, 99, 54, 51, 53, 100, 56, 97, 97, 51, 97, 57, 51, 101, 55, 98, 51, 101, 98, 98, 100, 53, 53, 55, 54, 57, 56, 56, 54, 98, 99, 54, 53, 49, 100, 48, 54, 98, 48, 99, 99, 53, 51, 98, 48, 102, 54, 51, 98, 99, 101, 51, 99, 51, 101, 50, 55, 100, 50, 54, 48, 52, 98], [102, 102, 102, 102, 102, 102, 102, 102, 48, 48, 48, 48, 48, 48, 48, 48, 102, 102, 102, 102, 102, 102, 102, 102, 102, 102, 102, 102, 102, 102, 102, 102, 98, 99, 101, 54, 102, 97, 97, 100, 97, 55, 49, 55, 57, 101, 56, 52, 102, 51, 98, 57, 99, 97, 99, 50, 102, 99, 54, 51, 50, 53, 53, 49], [54, 98, 49, 55, 100, 49, 102, 50, 101, 49, 50, 99, 52, 50, 52, 55, 102, 56, 98, 99, 101, 54, 101, 53, 54, 51, 97, 52, 52, 48, 102, 50, 55, 55, 48, 51, 55, 100, 56, 49, 50, 100, 101, 98, 51, 51, 97, 48, 102, 52, 97, 49, 51, 57, 52, 53, 100, 56, 57, 56, 99, 50, 57, 54], [52, 102, 101, 51, 52, 50, 101, 50, 102, 101, 49, 97, 55, 102, 57, 98, 56, 101, 101, 55, 101, 98, 52, 97, 55, 99, 48, 102, 57, 101, 49, 54, 50, 98, 99, 101, 51, 51, 53, 55, 54, 98, 51, 49, 53, 101, 99, 101, 99, 98, 98, 54, 52, 48, 54, 56, 51, 55, 98, 102, 53, 49, 102, 53]]
  | 4 => [[102, 102, 102, 102, 102, 102, 102, 102, 102, 102, 102, 102, 102, 102, 102, 102, 102, 102, 102, 102, 102, 102, 102, 102, 102, 102, 102, 102, 102, 102, 102, 102, 102, 102, 102, 102, 102, 102, 102, 102, 102, 102, 102, 102, 102, 102, 102, 102, 102, 102, 102, 102, 102, 102, 102, 102, 102, 102, 102, 102, 102, 102, 102, 101, 102, 102, 102, 102, 102, 102, 102, 102, 48, 48, 48, 48, 48, 48, 48, 48, 48, 48, 48, 48, 48, 48, 48, 48, 102, 102, 102, 102, 102, 102, 102, 102], [45], [98, 51, 51, 49, 50, 102, 97, 55, 101, 50, 51, 101, 101, 55, 101, 52, 57, 56, 56, 101, 48, 53, 54, 98, 101, 51, 102, 56, 50, 100, 49, 57, 49, 56, 49, 100, 57, 99, 54, 101, 102, 101, 56, 49, 52, 49, 49, 50, 48, 51, 49, 52, 48, 56, 56, 102, 53, 48, 49, 51, 56, 55, 53, 97, 99, 54, 53, 54, 51, 57, 56, 100, 56, 97, 50, 101, 100, 49, 57, 100, 50, 97, 56, 53, 99, 56, 101, 100, 100, 51, 101, 99, 50, 97, 101, 102], [102, 102, 102, 102, 102, 102, 102, 102, 102, 102, 102, 102, 102, 102, 102, 102, 102, 102, 102, 102, 102, 102, 102, 102, 102, 102, 102, 102, 102, 102, 102, 102, 102, 102, 102, 102, 102, 102, 102, 102, 102, 102, 102, 102, 102, 102, 102, 102, 99, 55, 54, 51, 52, 100, 56, 49, 102, 52, 51, 55, 50, 100, 100, 102, 53, 56, 49, 97, 48, 100, 98, 50, 52, 56, 98, 48, 97, 55, 55, 97, 101, 99, 101, 99, 49, 57, 54, 97, 99, 99, 99, 53, 50, 57, 55, 51], [97, 97, 56, 55, 99, 97, 50, 50, 98, 101, 56, 98, 48, 53, 51, 55, 56, 101, 98, 49, 99, 55, 49, 101, 102, 51, 50, 48, 97, 100, 55, 52, 54, 101, 49, 100, 51, 98, 54, 50, 56, 98, 97, 55, 57, 98, 57, 56, 53, 57, 102, 55, 52, 49, 101, 48, 56, 50, 53, 52, 50, 97, 51, 56, 53, 53, 48, 50, 102, 50, 53, 100, 98, 102, 53, 53, 50, 57, 54, 99, 51, 97, 53, 52, 53, 101, 51, 56, 55, 50, 55, 54, 48, 97, 98, 55], [51, 54, 49, 55, 100, 101, 52, 97, 57, 54, 50, 54, 50, 99, 54, 102, 53, 100, 57, 101, 57, 56, 98, 102, 57, 50, 57, 50, 100, 99, 50, 57, 102, 56, 102, 52, 49, 100, 98, 100, 50, 56, 57, 97, 49, 52, 55, 99, 101, 57, 100, 97, 51, 49, 49, 51, 98, 53, 102, 48, 98, 56, 99, 48, 48, 97, 54, 48, 98, 49, 99, 101, 49, 100, 55, 101, 56, 49, 57, 100, 55, 97, 52, 51, 49, 100, 55, 99, 57, 48, 101, 97, 48, 101, 53, 102]]
  | 5 => [[48, 49, 102, 102, 102, 102, 102, 102, 102, 102, 102, 102, 102, 102, 102, 102, 102, 102, 102, 102, 102, 102, 102, 102, 102, 102, 102, 102, 102, 102, 102, 102, 102, 102, 102, 102, 102, 102, 102, 102, 102, 102, 102, 102, 102, 102, 102, 102, 102, 102, 102, 102, 102, 102, 102, 102, 102, 102, 102, 102, 102, 102, 102, 102, 102, 102, 102, 102, 102, 102, 102, 102, 102, 102, 102, 102, 102, 102, 102, 102, 102, 102, 102, 102, 102, 102, 102, 102, 102, 102, 102, 102, 102, 102, 102, 102, 102, 102, 102, 102, 102, 102, 102, 102, 102, 102, 102, 102, 102, 102, 102, 102, 102, 102, 102, 102, 102, 102, 102, 102, 102, 102, 102, 102, 102, 102, 102, 102, 102, 102, 102, 102], [45], [48, 48, 53, 49, 57, 53, 51, 101, 98, 57, 54, 49, 56, 101, 49, 99, 57, 97, 49, 102, 57, 50, 57, 97, 50, 49, 97, 48, 98, 54, 56, 53, 52, 48, 101, 101, 97, 50, 100, 97, 55, 50, 53, 98, 57, 57, 98, 51, 49, 53, 102, 51, 98, 56, 98, 52, 56, 57, 57, 49, 56, 101, 102, 49, 48, 57, 101, 49, 53, 54, 49, 57, 51, 57, 53, 49, 101, 99, 55, 101, 57, 51, 55, 98, 49, 54, 53, 50, 99, 48, 98, 100, 51, 98, 98, 49, 98, 102, 48, 55, 51, 53, 55, 51, 100, 102, 56, 56, 51, 100, 50, 99, 51, 52, 102, 49, 101, 102, 52, 53, 49, 102, 100, 52, 54, 98, 53, 48, 51, 102, 48, 48], [48, 49, 102, 102, 102, 102, 102, 102, 102, 102, 102, 102, 102, 102, 102, 102, 102, 102, 102, 102, 102, 102, 102, 102, 102, 102, 102, 102, 102, 102, 102, 102, 102, 102, 102, 102, 102, 102, 102, 102, 102, 102, 102, 102, 102, 102, 102, 102, 102, 102, 102, 102, 102, 102, 102, 102, 102, 102, 102, 102, 102, 102, 102, 102, 102, 102, 102, 97, 53, 49, 56, 54, 56, 55, 56, 51, 98, 102, 50, 102, 57, 54, 54, 98, 55, 102, 99, 99, 48, 49, 52, 56, 102, 55, 48, 57, 97, 53, 100, 48, 51, 98, 98, 53, 99, 57, 98, 56, 56, 57, 57, 99, 52, 55, 97, 101, 98, 98, 54, 102, 98, 55, 49, 101, 57, 49, 51, 56, 54, 52, 48, 57], [48, 48, 99, 54, 56, 53, 56, 101, 48, 54, 98, 55, 48, 52, 48, 52, 101, 57, 99, 100, 57, 101, 51, 101, 99, 98, 54, 54, 50, 51, 57, 53, 98, 52, 52, 50, 57, 99, 54, 52, 56, 49, 51, 57, 48, 53, 51, 102, 98, 53, 50, 49, 102, 56, 50, 56, 97, 102, 54, 48, 54, 98, 52, 100, 51, 100, 98, 97, 97, 49, 52, 98, 53, 101, 55, 55, 101, 102, 101, 55, 53, 57, 50, 56, 102, 101, 49, 100, 99, 49, 50, 55, 97, 50, 102, 102, 97, 56, 100, 101, 51, 51, 52, 56, 98, 51, 99, 49, 56, 53, 54, 97, 52, 50, 57, 98, 102, 57, 55, 101, 55, 101, 51, 49, 99, 50, 101, 53, 98, 100, 54, 54], [48, 49, 49, 56, 51, 57, 50, 57, 54, 97, 55, 56, 57, 97, 51, 98, 99, 48, 48, 52, 53, 99, 56, 97, 53, 102, 98, 52, 50, 99, 55, 100, 49, 98, 100, 57, 57, 56, 102, 53, 52, 52, 52, 57, 53, 55, 57, 98, 52, 52, 54, 56, 49, 55, 97, 102, 98, 100, 49, 55, 50, 55, 51, 101, 54, 54, 50, 99, 57, 55, 101, 101, 55, 50, 57, 57, 53, 101, 102, 52, 50, 54, 52, 48, 99, 53, 53, 48, 98, 57, 48, 49, 51, 102, 97, 100, 48, 55, 54, 49, 51, 53, 51, 99, 55, 48, 56, 54, 97, 50, 55, 50, 99, 50, 52, 48, 56, 56, 98, 101, 57, 52, 55, 54, 57, 102, 100, 49, 54, 54, 53, 48]]
  | 6 => [[102, 102, 102, 102, 102, 102, 102, 102, 102, 102, 102, 102, 102, 102, 102, 102, 102, 102, 102, 102, 102, 102, 102, 102, 102, 102, 102, 102, 102, 102, 102, 102, 102, 102, 102, 102, 102, 102, 102, 102, 102, 102, 102, 102, 102, 102, 102, 102, 102, 102, 102, 102, 102, 102, 102, 101, 102, 102, 102, 102, 102, 99, 50, 102], [48], [55], [102, 102, 102, 102, 102, 102, 102, 102, 102, 102, 102, 102, 102, 102, 102, 102, 102, 102, 102, 102, 102, 102, 102, 102, 102, 102, 102, 102, 102, 102, 102, 101, 98, 97, 97, 101, 100, 99, 101, 54, 97, 102, 52, 56, 97, 48, 51, 98, 98, 102, 100, 50, 53, 101, 56, 99, 100, 48, 51, 54, 52, 49, 52, 49], [55, 57, 98, 101, 54, 54, 55, 101, 102, 57, 100, 99, 98, 98, 97, 99, 53, 53, 97, 48, 54, 50, 57, 53, 99, 101, 56, 55, 48, 98, 48, 55, 48, 50, 57, 98, 102, 99, 100, 98, 50, 100, 99, 101, 50, 56, 100, 57, 53, 57, 102, 50, 56, 49, 53, 98, 49, 54, 102, 56, 49, 55, 57, 56], [52, 56, 51, 97, 100, 97, 55, 55, 50, 54, 97, 51, 99, 52, 54, 53, 53, 100, 97, 52, 102, 98, 102, 99, 48, 101, 49, 49, 48, 56, 97, 56, 102, 100, 49, 55, 98, 52, 52, 56, 97, 54, 56, 53, 53, 52, 49, 57, 57, 99, 52, 55, 100, 48, 56, 102, 102, 98, 49, 48, 100, 52, 98, 56]]
  | 7 => [[101, 57, 53, 101, 52, 97, 53, 102, 55, 51, 55, 48, 53, 57, 100, 99, 54, 48, 100, 102, 99, 55, 97, 100, 57, 53, 98, 51, 100, 56, 49, 51, 57, 53, 49, 53, 54, 50, 48, 102], [51, 52, 48, 101, 55, 98, 101, 50, 97, 50, 56, 48, 101, 98, 55, 52, 101, 50, 98, 101, 54, 49, 98, 97, 100, 97, 55, 52, 53, 100, 57, 55, 101, 56, 102, 55, 99, 51, 48, 48], [49, 101, 53, 56, 57, 97, 56, 53, 57, 53, 52, 50, 51, 52, 49, 50, 49, 51, 52, 102, 97, 97, 50, 100, 98, 100, 101, 99, 57, 53, 99, 56, 100, 56, 54, 55, 53, 101, 53, 56], [101, 57, 53, 101, 52, 97, 53, 102, 55, 51, 55, 48, 53, 57, 100, 99, 54, 48, 100, 102, 53, 57, 57, 49, 100, 52, 53, 48, 50, 57, 52, 48, 57, 101, 54, 48, 102, 99, 48, 57], [98, 101, 100, 53, 97, 102, 49, 54, 101, 97, 51, 102, 54, 97, 52, 102, 54, 50, 57, 51, 56, 99, 52, 54, 51, 49, 101, 98, 53, 97, 102, 55, 98, 100, 98, 99, 100, 98, 99, 51], [49, 54, 54, 55, 99, 98, 52, 55, 55, 97, 49, 97, 56, 101, 99, 51, 51, 56, 102, 57, 52, 55, 52, 49, 54, 54, 57, 99, 57, 55, 54, 51, 49, 54, 100, 97, 54, 51, 50, 49]]
  | 8 => [[100, 55, 99, 49, 51, 52, 97, 97, 50, 54, 52, 51, 54, 54, 56, 54, 50, 97, 49, 56, 51, 48, 50, 53, 55, 53, 100, 49, 100, 55, 56, 55, 98, 48, 57, 102, 48, 55, 53, 55, 57, 55, 100, 97, 56, 57, 102, 53, 55, 101, 99, 56, 99, 48, 102, 102], [54, 56, 97, 53, 101, 54, 50, 99, 97, 57, 99, 101, 54, 99, 49, 99, 50, 57, 57, 56, 48, 51, 97, 54, 99, 49, 53, 51, 48, 98, 53, 49, 52, 101, 49, 56, 50, 97, 100, 56, 98, 48, 48, 52, 50, 97, 53, 57, 99, 97, 100, 50, 57, 102, 52, 51], [50, 53, 56, 48, 102, 54, 51, 99, 99, 102, 101, 52, 52, 49, 51, 56, 56, 55, 48, 55, 49, 51, 98, 49, 97, 57, 50, 51, 54, 57, 101, 51, 51, 101, 50, 49, 51, 53, 100, 50, 54, 54, 100, 98, 98, 51, 55, 50, 51, 56, 54, 99, 52, 48, 48, 98], [100, 55, 99, 49, 51, 52, 97, 97, 50, 54, 52, 51, 54, 54, 56, 54, 50, 97, 49, 56, 51, 48, 50, 53, 55, 53, 100, 48, 102, 98, 57, 56, 100, 49, 49, 54, 98, 99, 52, 98, 54, 100, 100, 101, 98, 99, 97, 51, 97, 53, 97, 55, 57, 51, 57, 102], [48, 100, 57, 48, 50, 57, 97, 100, 50, 99, 55, 101, 53, 99, 102, 52, 51, 52, 48, 56, 50, 51, 98, 50, 97, 56, 55, 100, 99, 54, 56, 99, 57, 101, 52, 99, 101, 51, 49, 55, 52, 99, 49, 101, 54, 101, 102, 100, 101, 101, 49, 50, 99, 48, 55, 100], [53, 56, 97, 97, 53, 54, 102, 55, 55, 50, 99, 48, 55, 50, 54, 102, 50, 52, 99, 54, 98, 56, 57, 101, 52, 101, 99, 100, 97, 99, 50, 52, 51, 53, 52, 98, 57, 101, 57, 57, 99, 97, 97, 51, 102, 54, 100, 51, 55, 54, 49, 52, 48, 50, 99, 100]]
  | 9 => [[97, 57, 102, 98, 53, 55, 100, 98, 97, 49, 101, 101, 97, 57, 98, 99, 51, 101, 54, 54, 48, 97, 57, 48, 57, 100, 56, 51, 56, 100, 55, 50, 54, 101, 51, 98, 102, 54, 50, 51, 100, 53, 50, 54, 50, 48, 50, 56, 50, 48, 49, 51, 52, 56, 49, 100, 49, 102, 54, 101, 53, 51, 55, 55], [55, 100, 53, 97, 48, 57, 55, 53, 102, 99, 50, 99, 51, 48, 53, 55, 101, 101, 102, 54, 55, 53, 51, 48, 52, 49, 55, 97, 102, 102, 101, 55, 102, 98, 56, 48, 53, 53, 99, 49, 50, 54, 100, 99, 53, 99, 54, 99, 101, 57, 52, 97, 52, 98, 52, 52, 102, 51, 51, 48, 98, 53, 100, 57], [50, 54, 100, 99, 53, 99, 54, 99, 101, 57, 52, 97, 52, 98, 52, 52, 102, 51, 51, 48, 98, 53, 100, 57, 98, 98, 100, 55, 55, 99, 98, 102, 57, 53, 56, 52, 49, 54, 50, 57, 53, 99, 102, 55, 101, 49, 99, 101, 54, 98, 99, 99, 100, 99, 49, 56, 102, 102, 56, 99, 48, 55, 98, 54], [97, 57, 102, 98, 53, 55, 100, 98, 97, 49, 101, 101, 97, 57, 98, 99, 51, 101, 54, 54, 48, 97, 57, 48, 57, 100, 56, 51, 56, 100, 55, 49, 56, 99, 51, 57, 55, 97, 97, 51, 98, 53, 54, 49, 97, 54, 102, 55, 57, 48, 49, 101, 48, 101, 56, 50, 57, 55, 52, 56, 53, 54, 97, 55], [56, 98, 100, 50, 97, 101, 98, 57, 99, 98, 55, 101, 53, 55, 99, 98, 50, 99, 52, 98, 52, 56, 50, 102, 102, 99, 56, 49, 98, 55, 97, 102, 98, 57, 100, 101, 50, 55, 101, 49, 101, 51, 98, 100, 50, 51, 99, 50, 51, 97, 52, 52, 53, 51, 98, 100, 57, 97, 99, 101, 51, 50, 54, 50], [53, 52, 55, 101, 102, 56, 51, 53, 99, 51, 100, 97, 99, 52, 102, 100, 57, 55, 102, 56, 52, 54, 49, 97, 49, 52, 54, 49, 49, 100, 99, 57, 99, 50, 55, 55, 52, 53, 49, 51, 50, 100, 101, 100, 56, 101, 53, 52, 53, 99, 49, 100, 53, 52, 99, 55, 50, 102, 48, 52, 54, 57, 57, 55]]
  | 10 => [[100, 51, 53, 101, 52, 55, 50, 48, 51, 54, 98, 99, 52, 102, 98, 55, 101, 49, 51, 99, 55, 56, 53, 101, 100, 50, 48, 49, 101, 48, 54, 53, 102, 57, 56, 102, 99, 102, 97, 54, 102, 54, 102, 52, 48, 100, 101, 102, 52, 102, 57, 50, 98, 57, 101, 99, 55, 56, 57, 51, 101, 99, 50, 56, 102, 99, 100, 52, 49, 50, 98, 49, 102, 49, 98, 51, 50, 101, 50, 55], [51, 101, 101, 51, 48, 98, 53, 54, 56, 102, 98, 97, 98, 48, 102, 56, 56, 51, 99, 99, 101, 98, 100, 52, 54, 100, 51, 102, 51, 98, 98, 56, 97, 50, 97, 55, 51, 53, 49, 51, 102, 53, 101, 98, 55, 57, 100, 97, 54, 54, 49, 57, 48, 101, 98, 48, 56, 53, 102, 102, 97, 57, 102, 52, 57, 50, 102, 51, 55, 53, 97, 57, 55, 100, 56, 54, 48, 101, 98, 52], [53, 50, 48, 56, 56, 51, 57, 52, 57, 100, 102, 100, 98, 99, 52, 50, 100, 51, 97, 100, 49, 57, 56, 54, 52, 48, 54, 56, 56, 97, 54, 102, 101, 49, 51, 102, 52, 49, 51, 52, 57, 53, 53, 52, 98, 52, 57, 97, 99, 99, 51, 49, 100, 99, 99, 100, 56, 56, 52, 53, 51, 57, 56, 49, 54, 102, 53, 101, 98, 52, 97, 99, 56, 102, 98, 49, 102, 49, 97, 54], [100, 51, 53, 101, 52, 55, 50, 48, 51, 54, 98, 99, 52, 102, 98, 55, 101, 49, 51, 99, 55, 56, 53, 101, 100, 50, 48, 49, 101, 48, 54, 53, 102, 57, 56, 102, 99, 102, 97, 53, 98, 54, 56, 102, 49, 50, 97, 51, 50, 100, 52, 56, 50, 101, 99, 55, 101, 101, 56, 54, 53, 56, 101, 57, 56, 54, 57, 49, 53, 53, 53, 98, 52, 52, 99, 53, 57, 51, 49, 49], [52, 51, 98, 100, 55, 101, 57, 97, 102, 98, 53, 51, 100, 56, 98, 56, 53, 50, 56, 57, 98, 99, 99, 52, 56, 101, 101, 53, 98, 102, 101, 54, 102, 50, 48, 49, 51, 55, 100, 49, 48, 97, 48, 56, 55, 101, 98, 54, 101, 55, 56, 55, 49, 101, 50, 97, 49, 48, 97, 53, 57, 57, 99, 55, 49, 48, 97, 102, 56, 100, 48, 100, 51, 57, 101, 50, 48, 54, 49, 49], [49, 52, 102, 100, 100, 48, 53, 53, 52, 53, 101, 99, 49, 99, 99, 56, 97, 98, 52, 48, 57, 51, 50, 52, 55, 102, 55, 55, 50, 55, 53, 101, 48, 55, 52, 51, 102, 102, 101, 100, 49, 49, 55, 49, 56, 50, 101, 97, 97, 57, 99, 55, 55, 56, 55, 55, 97, 97, 97, 99, 54, 97, 99, 55, 100, 51, 53, 50, 52, 53, 100, 49, 54, 57, 50, 101, 56, 101, 101, 49]]
  | 11 => [[56, 99, 98, 57, 49, 101, 56, 50, 97, 51, 51, 56, 54, 100, 50, 56, 48, 102, 53, 100, 54, 102, 55, 101, 53, 48, 101, 54, 52, 49, 100, 102, 49, 53, 50, 102, 55, 49, 48, 57, 101, 100, 53, 52, 53, 54, 98, 52, 49, 50, 98, 49, 100, 97, 49, 57, 55, 102, 98, 55, 49, 49, 50, 51, 97, 99, 100, 51, 97, 55, 50, 57, 57, 48, 49, 100, 49, 97, 55, 49, 56, 55, 52, 55, 48, 48, 49, 51, 51, 49, 48, 55, 101, 99, 53, 51], [55, 98, 99, 51, 56, 50, 99, 54, 51, 100, 56, 99, 49, 53, 48, 99, 51, 99, 55, 50, 48, 56, 48, 97, 99, 101, 48, 53, 97, 102, 97, 48, 99, 50, 98, 101, 97, 50, 56, 101, 52, 102, 98, 50, 50, 55, 56, 55, 49, 51, 57, 49, 54, 53, 101, 102, 98, 97, 57, 49, 102, 57, 48, 102, 56, 97, 97, 53, 56, 49, 52, 97, 53, 48, 51, 97, 100, 52, 101, 98, 48, 52, 97, 56, 99, 55, 100, 100, 50, 50, 99, 101, 50, 56, 50, 54], [48, 52, 97, 56, 99, 55, 100, 100, 50, 50, 99, 101, 50, 56, 50, 54, 56, 98, 51, 57, 98, 53, 53, 52, 49, 54, 102, 48, 52, 52, 55, 99, 50, 102, 98, 55, 55, 100, 101, 49, 48, 55, 100, 99, 100, 50, 97, 54, 50, 101, 56, 56, 48, 101, 97, 53, 51, 101, 101, 98, 54, 50, 100, 53, 55, 99, 98, 52, 51, 57, 48, 50, 57, 53, 100, 98, 99, 57, 57, 52, 51, 97, 98, 55, 56, 54, 57, 54, 102, 97, 53, 48, 52, 99, 49, 49], [56, 99, 98, 57, 49, 101, 56, 50, 97, 51, 51, 56, 54, 100, 50, 56, 48, 102, 53, 100, 54, 102, 55, 101, 53, 48, 101, 54, 52, 49, 100, 102, 49, 53, 50, 102, 55, 49, 48, 57, 101, 100, 53, 52, 53, 54, 98, 51, 49, 102, 49, 54, 54, 101, 54, 99, 97, 99, 48, 52, 50, 53, 97, 55, 99, 102, 51, 97, 98, 54, 97, 102, 54, 98, 55, 102, 99, 51, 49, 48, 51, 98, 56, 56, 51, 50, 48, 50, 101, 57, 48, 52, 54, 53, 54, 53], [49, 100, 49, 99, 54, 52, 102, 48, 54, 56, 99, 102, 52, 53, 102, 102, 97, 50, 97, 54, 51, 97, 56, 49, 98, 55, 99, 49, 51, 102, 54, 98, 56, 56, 52, 55, 97, 51, 101, 55, 55, 101, 102, 49, 52, 102, 101, 51, 100, 98, 55, 102, 99, 97, 102, 101, 48, 99, 98, 100, 49, 48, 101, 56, 101, 56, 50, 54, 101, 48, 51, 52, 51, 54, 100, 54, 52, 54, 97, 97, 101, 102, 56, 55, 98, 50, 101, 50, 52, 55, 100, 52, 97, 102, 49, 101], [56, 97, 98, 101, 49, 100, 55, 53, 50, 48, 102, 57, 99, 50, 97, 52, 53, 99, 98, 49, 101, 98, 56, 101, 57, 53, 99, 102, 100, 53, 53, 50, 54, 50, 98, 55, 48, 98, 50, 57, 102, 101, 101, 99, 53, 56, 54, 52, 101, 49, 57, 99, 48, 53, 52, 102, 102, 57, 57, 49, 50, 57, 50, 56, 48, 101, 52, 54, 52, 54, 50, 49, 55, 55, 57, 49, 56, 49, 49, 49, 52, 50, 56, 50, 48, 51, 52, 49, 50, 54, 51, 99, 53, 51, 49, 53]]
  | 12 => [[97, 97, 100, 100, 57, 100, 98, 56, 100, 98, 101, 57, 99, 52, 56, 98, 51, 102, 100, 52, 101, 54, 97, 101, 51, 51, 99, 57, 102, 99, 48, 55, 99, 98, 51, 48, 56, 100, 98, 51, 98, 51, 99, 57, 100, 50, 48, 101, 100, 54, 54, 51, 57, 99, 99, 97, 55, 48, 51, 51, 48, 56, 55, 49, 55, 100, 52, 100, 57, 98, 48, 48, 57, 98, 99, 54, 54, 56, 52, 50, 97, 101, 99, 100, 97, 49, 50, 97, 101, 54, 97, 51, 56, 48, 101, 54, 50, 56, 56, 49, 102, 102, 50, 102, 50, 100, 56, 50, 99, 54, 56, 53, 50, 56, 97, 97, 54, 48, 53, 54, 53, 56, 51, 97, 52, 56, 102, 51], [55, 56, 51, 48, 97, 51, 51, 49, 56, 98, 54, 48, 51, 98, 56, 57, 101, 50, 51, 50, 55, 49, 52, 53, 97, 99, 50, 51, 52, 99, 99, 53, 57, 52, 99, 98, 100, 100, 56, 100, 51, 100, 102, 57, 49, 54, 49, 48, 97, 56, 51, 52, 52, 49, 99, 97, 101, 97, 57, 56, 54, 51, 98, 99, 50, 100, 101, 100, 53, 100, 53, 97, 97, 56, 50, 53, 51, 97, 97, 49, 48, 97, 50, 101, 102, 49, 99, 57, 56, 98, 57, 97, 99, 56, 98, 53, 55, 102, 49, 49, 49, 55, 97, 55, 50, 98, 102, 50, 99, 55, 98, 57, 101, 55, 99, 49, 97, 99, 52, 100, 55, 55, 102, 99, 57, 52, 99, 97], [51, 100, 102, 57, 49, 54, 49, 48, 97, 56, 51, 52, 52, 49, 99, 97, 101, 97, 57, 56, 54, 51, 98, 99, 50, 100, 101, 100, 53, 100, 53, 97, 97, 56, 50, 53, 51, 97, 97, 49, 48, 97, 50, 101, 102, 49, 99, 57, 56, 98, 57, 97, 99, 56, 98, 53, 55, 102, 49, 49, 49, 55, 97, 55, 50, 98, 102, 50, 99, 55, 98, 57, 101, 55, 99, 49, 97, 99, 52, 100, 55, 55, 102, 99, 57, 52, 99, 97, 100, 99, 48, 56, 51, 101, 54, 55, 57, 56, 52, 48, 53, 48, 98, 55, 53, 101, 98, 97, 101, 53, 100, 100, 50, 56, 48, 57, 98, 100, 54, 51, 56, 48, 49, 54, 102, 55, 50, 51], [97, 97, 100, 100, 57, 100, 98, 56, 100, 98, 101, 57, 99, 52, 56, 98, 51, 102, 100, 52, 101, 54, 97, 101, 51, 51, 99, 57, 102, 99, 48, 55, 99, 98, 51, 48, 56, 100, 98, 51, 98, 51, 99, 57, 100, 50, 48, 101, 100, 54, 54, 51, 57, 99, 99, 97, 55, 48, 51, 51, 48, 56, 55, 48, 53, 53, 51, 101, 53, 99, 52, 49, 52, 99, 97, 57, 50, 54, 49, 57, 52, 49, 56, 54, 54, 49, 49, 57, 55, 102, 97, 99, 49, 48, 52, 55, 49, 100, 98, 49, 100, 51, 56, 49, 48, 56, 53, 100, 100, 97, 100, 100, 98, 53, 56, 55, 57, 54, 56, 50, 57, 99, 97, 57, 48, 48, 54, 57], [56, 49, 97, 101, 101, 52, 98, 100, 100, 56, 50, 101, 100, 57, 54, 52, 53, 97, 50, 49, 51, 50, 50, 101, 57, 99, 52, 99, 54, 97, 57, 51, 56, 53, 101, 100, 57, 102, 55, 48, 98, 53, 100, 57, 49, 54, 99, 49, 98, 52, 51, 98, 54, 50, 101, 101, 102, 52, 100, 48, 48, 57, 56, 101, 102, 102, 51, 98, 49, 102, 55, 56, 101, 50, 100, 48, 100, 52, 56, 100, 53, 48, 100, 49, 54, 56, 55, 98, 57, 51, 98, 57, 55, 100, 53, 102, 55, 99, 54, 100, 53, 48, 52, 55, 52, 48, 54, 97, 53, 101, 54, 56, 56, 98, 51, 53, 50, 50, 48, 57, 98, 99, 98, 57, 102, 56, 50, 50], [55, 100, 100, 101, 51, 56, 53, 100, 53, 54, 54, 51, 51, 50, 101, 99, 99, 48, 101, 97, 98, 102, 97, 57, 99, 102, 55, 56, 50, 50, 102, 100, 102, 50, 48, 57, 102, 55, 48, 48, 50, 52, 97, 53, 55, 98, 49, 97, 97, 48, 48, 48, 99, 53, 53, 98, 56, 56, 49, 102, 56, 49, 49, 49, 98, 50, 100, 99, 100, 101, 52, 57, 52, 97, 53, 102, 52, 56, 53, 101, 53, 98, 99, 97, 52, 98, 100, 56, 56, 97, 50, 55, 54, 51, 97, 101, 100, 49, 99, 97, 50, 98, 50, 102, 97, 56, 102, 48, 53, 52, 48, 54, 55, 56, 99, 100, 49, 101, 48, 102, 51, 97, 100, 56, 48, 56, 57, 50]]
  | 13 => [[102, 98], [45], [49, 97], [100, 102], [50], [53, 52]]
  | 14 => [[102, 49], [48], [100], [100, 51], [51], [50, 102]]
  | 15 => [[101, 102], [55, 53], [56], [101, 53], [48], [50, 57]]
  | _ => []

def crS (k i : Nat) : List Nat := (cst k).getD i []
abbrev crP (k : Nat) : Nat := hv (crS k 0)
def crA (k : Nat) : Nat := if crS k 1 = [45] then crP k - 3 else hv (crS k 1)
abbrev crB (k : Nat) : Nat := hv (crS k 2)
abbrev crN (k : Nat) : Nat := hv (crS k 3)
abbrev crX (k : Nat) : Nat := hv (crS k 4)
abbrev crY (k : Nat) : Nat := hv (crS k 5)
def okS (s : List Nat) : Bool := s.all isHex && Nat.ble s.length 144 && Nat.ble 1 s.length
def okK (k : Nat) : Bool := okS (crS k 0) && okS (crS k 2) && okS (crS k 3) && okS (crS k 4) && okS (crS k 5) && (if crS k 1 = [45] then true else okS (crS k 1)) && Nat.ble 1 (crP k % 2) && Nat.ble 200 (crP k) && Nat.ble (crP k + 1) M && Nat.ble (crA k + 1) (crP k) && Nat.ble (crB k + 1) (crP k) && Nat.ble (crX k + 1) (crP k) && Nat.ble (crY k + 1) (crP k) && Nat.ble (crN k + 1) M
inductive Cid : Nat → Prop
  | c1 : Cid 1
  | c2 : Cid 2
  | c3 : Cid 3
  | c4 : Cid 4
  | c5 : Cid 5
  | c6 : Cid 6
  | c7 : Cid 7
  | c8 : Cid 8
  | c9 : Cid 9
  | c10 : Cid 10
  | c11 : Cid 11
  | c12 : Cid 12
  | c13 : Cid 13
  | c14 : Cid 14
  | c15 : Cid 15
theorem cid_of {k : Nat} (h1 : 1 ≤ k) (h2 : k ≤ 15) : Cid k := by
  have h : k = 1 ∨ k = 2 ∨ k = 3 ∨ k = 4 ∨ k = 5 ∨ k = 6 ∨ k = 7 ∨ k = 8 ∨ k = 9 ∨ k = 10 ∨ k = 11 ∨ k = 12 ∨ k = 13 ∨ k = 14 ∨ k = 15 := by omega
  rcases h with h | h | h | h | h | h | h | h | h | h | h | h | h | h | h
  · rw [h]; exact .c1
  · rw [h]; exact .c2
  · rw [h]; exact .c3
  · rw [h]; exact .c4
  · rw [h]; exact .c5
  · rw [h]; exact .c6
  · rw [h]; exact .c7
  · rw [h]; exact .c8
  · rw [h]; exact .c9
  · rw [h]; exact .c10
  · rw [h]; exact .c11
  · rw [h]; exact .c12
  · rw [h]; exact .c13
  · rw [h]; exact .c14
  · rw [h]; exact .c15
theorem cid_le {k : Nat} (h : Cid k) : 1 ≤ k ∧ k ≤ 15 := by cases h <;> decide
theorem r_prime {k : Nat} (h : Cid k) : Run T f_field_prime [.i (k : Int)] [] = some (.s (crS k 0), []) := by
  cases h
  · exact (Run_some T).2 ⟨8, by kernel_rfl⟩
  · exact (Run_some T).2 ⟨8, by kernel_rfl⟩
  · exact (Run_some T).2 ⟨8, by kernel_rfl⟩
  · exact (Run_some T).2 ⟨8, by kernel_rfl⟩
  · exact (Run_some T).2 ⟨8, by kernel_rfl⟩
  · exact (Run_some T).2 ⟨8, by kernel_rfl⟩
  · exact (Run_some T).2 ⟨8, by kernel_rfl⟩
  · exact (Run_some T).2 ⟨8, by kernel_rfl⟩
  · exact (Run_some T).2 ⟨8, by kernel_rfl⟩
  · exact (Run_some T).2 ⟨8, by kernel_rfl⟩
  · exact (Run_some T).2 ⟨8, by kernel_rfl⟩
  · exact (Run_some T).2 ⟨8, by kernel_rfl⟩
  · exact (Run_some T).2 ⟨8, by kernel_rfl⟩
  · exact (Run_some T).2 ⟨8, by kernel_rfl⟩
  · exact (Run_some T).2 ⟨8, by kernel_rfl⟩
theorem cok {k : Nat} (h : Cid k) : okK k = true := by
  cases h
  · kernel_rfl
  · kernel_rfl
  · kernel_rfl
  · kernel_rfl
  · kernel_rfl
  · kernel_rfl
  · kernel_rfl
  · kernel_rfl
  · kernel_rfl
  · kernel_rfl
  · kernel_rfl
  · kernel_rfl
  · kernel_rfl
  · kernel_rfl
  · kernel_rfl
theorem crP_1 : crP 1 = 0xfffffffffffffffffffffffffffffffeffffffffffffffff := by kernel_rfl
theorem crP_2 : crP 2 = 0xffffffffffffffffffffffffffffffff000000000000000000000001 := by kernel_rfl
theorem crP_3 : crP 3 = 0xffffffff00000001000000000000000000000000ffffffffffffffffffffffff := by kernel_rfl
theorem crP_4 : crP 4 = 0xfffffffffffffffffffffffffffffffffffffffffffffffffffffffffffffffeffffffff0000000000000000ffffffff := by kernel_rfl
theorem crP_5 : crP 5 = 0x1ffffffffffffffffffffffffffffffffffffffffffffffffffffffffffffffffffffffffffffffffffffffffffffffffffffffffffffffffffffffffffffffffff := by kernel_rfl
theorem crP_6 : crP 6 = 0xfffffffffffffffffffffffffffffffffffffffffffffffffffffffefffffc2f := by kernel_rfl
theorem crP_7 : crP 7 = 0xe95e4a5f737059dc60dfc7ad95b3d8139515620f := by kernel_rfl
theorem crP_8 : crP 8 = 0xd7c134aa264366862a18302575d1d787b09f075797da89f57ec8c0ff := by kernel_rfl
theorem crP_9 : crP 9 = 0xa9fb57dba1eea9bc3e660a909d838d726e3bf623d52620282013481d1f6e5377 := by kernel_rfl
theorem crP_10 : crP 10 = 0xd35e472036bc4fb7e13c785ed201e065f98fcfa6f6f40def4f92b9ec7893ec28fcd412b1f1b32e27 := by kernel_rfl
theorem crP_11 : crP 11 = 0x8cb91e82a3386d280f5d6f7e50e641df152f7109ed5456b412b1da197fb71123acd3a729901d1a71874700133107ec53 := by kernel_rfl
theorem crP_12 : crP 12 = 0xaadd9db8dbe9c48b3fd4e6ae33c9fc07cb308db3b3c9d20ed6639cca703308717d4d9b009bc66842aecda12ae6a380e62881ff2f2d82c68528aa6056583a48f3 := by kernel_rfl
theorem crP_13 : crP 13 = 0xfb := by kernel_rfl
theorem crP_14 : crP 14 = 0xf1 := by kernel_rfl
theorem crP_15 : crP 15 = 0xef := by kernel_rfl
theorem crP_pr {k : Nat} (h : Cid k) : Pr (crP k) := by
  cases h
  · rw [crP_1]; exact pr_P192
  · rw [crP_2]; exact pr_P224
  · rw [crP_3]; exact pr_P256
  · rw [crP_4]; exact pr_P384
  · rw [crP_5]; exact pr_P521
  · rw [crP_6]; exact pr_K256
  · rw [crP_7]; exact pr_B160
  · rw [crP_8]; exact pr_B224
  · rw [crP_9]; exact pr_B256
  · rw [crP_10]; exact pr_B320
  · rw [crP_11]; exact pr_B384
  · rw [crP_12]; exact pr_B512
  · rw [crP_13]; exact pr_T1
  · rw [crP_14]; exact pr_T2
  · rw [crP_15]; exact pr_T3
end Mir

namespace Mir

theorem okS_ok {s : List Nat} (h : okS s = true) : s.all isHex = true ∧ s.length ≤ 144 ∧ 1 ≤ s.length := by
  simp only [okS, Bool.and_eq_true, Nat.ble_eq] at h
  exact ⟨h.1.1, h.1.2, h.2⟩

structure CvOk (k : Nat) : Prop where
  le : 1 ≤ k ∧ k ≤ 15
  sP : okS (crS k 0) = true
  sB : okS (crS k 2) = true
  sN : okS (crS k 3) = true
  sX : okS (crS k 4) = true
  sY : okS (crS k 5) = true
  sA : crS k 1 = [45] ∨ (crS k 1 ≠ [45] ∧ okS (crS k 1) = true)
  odd : crP k % 2 = 1
  big : 200 ≤ crP k
  lt : crP k < M
  A : crA k < crP k
  B : crB k < crP k
  X : crX k < crP k
  Y : crY k < crP k
  N : crN k < M
  pr : Pr (crP k)
theorem cv_ok {k : Nat} (h : Cid k) : CvOk k := by
  have h1 := cok h
  simp only [okK, Bool.and_eq_true, Nat.ble_eq] at h1
  obtain ⟨⟨⟨⟨⟨⟨⟨⟨⟨⟨⟨⟨⟨a1, a2⟩, a3⟩, a4⟩, a5⟩, a6⟩, a7⟩, a8⟩, a9⟩, b1⟩, b2⟩, b3⟩, b4⟩, b5⟩ := h1
  refine ⟨cid_le h, a1, a2, a3, a4, a5, ?_, by omega, a8, a9, b1, b2, b3, b4, b5, crP_pr h⟩
  split at a6
  · next h => exact .inl h
  · next h => exact .inr ⟨h, a6⟩

section
variable (a b c d e f g h i j k l m n : V)
end
theorem splice_two {l cs : List V} (h : 2 ≤ cs.length) : splice l 0 cs = cs ++ l.drop cs.length := by
  match cs, h with
  | a :: b :: r, _ => simp [splice]
theorem sp10 (p : Nat) : splice [V.u 64 0, V.u 64 0, V.u 64 0, V.u 64 0, V.u 64 0, V.u 64 0, V.u 64 0, V.u 64 0, V.u 64 0, V.nilp] 0 (us 64 (dl 64 9 p)) = us 64 (dl 64 9 p) ++ [V.nilp] := by
  rw [splice_two (by rw [us_len, dl_len]; omega), us_len, dl_len]; rfl
theorem sp10b (p : Nat) (a b : V) : (us 64 (dl 64 9 p) ++ [a]).set 9 b = us 64 (dl 64 9 p) ++ [b] := by
  rw [List.set_append_right _ _ (by rw [us_len, dl_len]; omega), us_len, dl_len]; rfl
theorem sp10l (p : Nat) (a : V) : (us 64 (dl 64 9 p) ++ [a]).length = 10 := by simp [us_len, dl_len]

theorem fld_fz (p : Nat) : fzV false [] 0 6 (.vr (us 64 (dl 64 9 p) ++ [dvm p]) 0) = some (.vr (us 64 (dl 64 9 p) ++ [dvm p]) 0) := by
  have h := fld_noHp p 5
  simp only [fld, fldL] at h
  simp only [fzV, h, if_true]
theorem r_fOf {k : Nat} (h : Cid k) : Run T f_field_Of [.i (k : Int)] [] = some (fld (crP k), []) := by
  rw [Run_at T _ (show T f_field_Of = some m_field_Of from rfl)]
  simp only [c_field_Of, zero9]
  have c := cv_ok h
  have c1 := r_prime h
  obtain ⟨o1, o2, o3⟩ := okS_ok c.sP
  have c2 := r_hv o2 o1
  have c3 := r_By c.lt (by have := c.big; omega)
  have d1 : (crS k 0 == []) = false := beq_eq_false_iff_ne.2 (by intro h; rw [h] at o3; simp at o3)
  unfold crP at c3 ⊢
  simp only [fld, fldL]
  clear o1 o2 o3 h c
  generalize crS k 0 = s0 at *
  generalize hv s0 = p at *
  have hz := fld_fz p
  simp only [EE,EX,Nat.reduceLeDiff,Nat.reduceEqDiff,Int.reduceEq,reduceCtorEq,Nat.reduceAdd,Nat.reduceMul,if_true,if_false,decide_true,decide_false, c1, c2, c3, d1, sp10, sp10b, sp10l, hz]

end Mir

namespace Mir

theorem fld_noHp8 (p : Nat) : noHp 8 (fld p) = true := fld_noHp p 5
theorem fld_np (l : List V) : eqV .ptr (.vr l 0) .nilp = some false := rfl
section
variable {k a b : Nat}
end

theorem r_FInv {p a i : Nat} (hi : Run T f_divide_Inverse [natv a, natv p] [] = some (.tup [natv i, .i 0], [])) : Run T f_field_Field_Inv [fld p, natv a] [] = some (natv i, []) := by
  rw [Run_at T _ (show T f_field_Field_Inv = some m_field_Field_Inv from rfl)]
  simp only [c_field_Field_Inv, zero9]
  have k1 := fld_p p
  simp only [fld] at *
  generalize fldL p = X at *
  simp only [EE,EX,Nat.reduceLeDiff,Nat.reduceEqDiff,Int.reduceEq,reduceCtorEq,Nat.reduceAdd,Nat.reduceMul,if_true,if_false,decide_true,decide_false, hi, k1, natv_noHp]
end Mir

namespace Mir

section
variable {k : Nat} (h : Cid k)
include h
end

end Mir

namespace Mir

end Mir

namespace Mir

/-- A root by Tonelli and Shanks, as numbers: how many twos, how many steps. -/
structure RootAt (a p z : Nat) where
  s : Nat
  n : Nat
  u : Nat → Ts
  s1 : 1 ≤ s
  s2 : ∀ i, i < s → (p - 1) / 2 ^ i % 2 = 0
  s3 : (p - 1) / 2 ^ s % 2 = 1
  s4 : s < 600
  u0 : u 0 = tsZero a p s z
  us : ∀ i, u (i + 1) = tsStep p (u i)
  n0 : (u n).t = 1
  n1 : ∀ i, i < n → (u i).t ≠ 1
  ok : ∀ i, i ≤ n → TsOk a p (u i) ∧ (u i).m ≤ s
theorem RootAt.sq {a p z : Nat} (hp : 1 < p) (ha : a < p) (r : RootAt a p z) : (r.u r.n).x < p ∧ (r.u r.n).x * (r.u r.n).x % p = a := by
  have h := (r.ok r.n (Nat.le_refl _)).1
  refine ⟨h.x, ?_⟩
  rw [h.sq, r.n0, Nat.mul_one, Nat.mod_eq_of_lt ha]
section
variable {k a : Nat} (h : Cid k) (ha : a < crP k)
include h ha
omit h ha
include h ha
end
end Mir

