/- Chapter 6, laws as the small language runs them: back and forth, sums, ones, tiny ones. Conditions: none. -/
import Derived.Test.YtgpmgccdenjadaaAllM
import Derived.Test.YtgpmgccdenjadaaAllN
import Derived.Test.YtgpmgccdenjadaaAllE
import Derived.Test.YtgpmgccdenjadaaAwake6
set_option linter.unusedVariables false
set_option linter.unusedSimpArgs false
set_option exponentiation.threshold 5000
set_option maxRecDepth 20000
namespace Mir

theorem lenMb {x : Nat} (h : x < M) : (dg x).length ≤ 18 := dg_len_le 18 x (M32 ▸ h)
theorem fitMb {x : Nat} (h : x ≤ M) : Fit x := Fit.of_lt (n := 19) (Nat.lt_of_le_of_lt h (by unfold M; exact Nat.pow_lt_pow_right (by omega) (by omega))) (by omega)

/-- The lowest word is set. -/
def low0 (m w : Nat) : Nat := m / 2 ^ 64 * 2 ^ 64 + w
theorem low0_set {m w : Nat} (hw : w < 2 ^ 64) : (us 64 (dl 64 9 m)).set 0 (.u 64 w) = us 64 (dl 64 9 (low0 m w)) := by
  rw [us_set]
  congr 1
  unfold low0
  have e : ∀ j, 1 ≤ j → (m / 2 ^ 64 * 2 ^ 64 + w) / 2 ^ (64 * j) = m / 2 ^ (64 * j) := fun j hj => by
    obtain ⟨k, hk⟩ : ∃ k, j = k + 1 := ⟨j - 1, by omega⟩
    rw [hk, show 64 * (k + 1) = 64 + 64 * k by omega, Nat.pow_add, ← Nat.div_div_eq_div_mul, ← Nat.div_div_eq_div_mul]
    congr 1
    omega
  apply List.ext_getElem
  · simp [dl_len]
  · intro k h1 h2
    rw [dl_len] at h2
    have e2 : ∀ x, (dl 64 9 x)[k]'(by rw [dl_len]; exact h2) = x / 2 ^ (64 * k) % 2 ^ 64 := fun x => by simp [dl, tb]
    rw [List.getElem_set]
    by_cases h : 0 = k
    · rw [if_pos h]
      subst h
      rw [e2, Nat.mul_zero, Nat.pow_zero, Nat.div_one]
      omega
    · rw [if_neg h, e2, e2, e k (by omega)]
theorem low0_lt {m w : Nat} (hm : m < M) (hw : w < 2 ^ 64) : low0 m w < M := by
  unfold low0
  have h1 : ∃ K, M = 2 ^ 64 * K := ⟨2 ^ 512, by unfold M; rw [← Nat.pow_add]⟩
  obtain ⟨K, hK⟩ := h1
  rw [hK] at hm ⊢
  omega
theorem or_odd {x k : Nat} (hk : k % 2 = 1) (hk3 : 3 ≤ k) (hx : x < 2 ^ 64) (hk64 : k < 2 ^ 64) : (x ||| k) % 2 = 1 ∧ 3 ≤ (x ||| k) ∧ (x ||| k) < 2 ^ 64 := by
  refine ⟨?_, Nat.le_trans hk3 Nat.right_le_or, Nat.or_lt_two_pow hx hk64⟩
  rw [Nat.or_mod_two_eq_one]
  exact .inr hk
theorem low0_odd {m w : Nat} (hw : w % 2 = 1) (h3 : 3 ≤ w) : low0 m w % 2 = 1 ∧ 3 ≤ low0 m w := by unfold low0; omega

theorem back_form {a m : Nat} (ho : m % 2 = 1) (h3 : 3 ≤ m) (ha : a < m) : a * monR m % m * monI m % m = a := by
  obtain ⟨i1, i2⟩ := monI_ok ho h3
  rw [Nat.mod_mul_mod, Nat.mul_assoc, Nat.mul_comm (monR m), Nat.mul_mod, i2, Nat.mul_one, Nat.mod_mod, Nat.mod_eq_of_lt ha]
theorem back_prod {a b m : Nat} (ho : m % 2 = 1) (h3 : 3 ≤ m) : a * monR m % m * (b * monR m % m) * monI m % m * monI m % m = a * b % m := by
  obtain ⟨i1, i2⟩ := monI_ok ho h3
  obtain ⟨R, hR⟩ : ∃ R, R = monR m := ⟨_, rfl⟩
  obtain ⟨I, hI⟩ : ∃ R, R = monI m := ⟨_, rfl⟩
  rw [← hR, ← hI] at i2 ⊢
  rw [Nat.mod_mul_mod, Nat.mul_assoc, Nat.mul_assoc, Nat.mod_mul_mod, ← Nat.mul_assoc, ← Nat.mul_assoc, Nat.mul_assoc (a * R * (b * R % m)), Nat.mul_right_comm, Nat.mul_mod_mod]
  have e : a * R * (I * I) * (b * R) = a * b * (I * R) * (I * R) := by grind
  rw [e, Nat.mul_mod, i2, Nat.mul_one, Nat.mod_mod, Nat.mul_mod, i2, Nat.mul_one, Nat.mod_mod]

theorem law_MontBack {m a b : Nat} (hm : m < M) (ha : a < M) (hb : b < M) : Run T f_curvetlaw6_MontBack [natv m, natv a, natv b] [] = some (.b true, []) := by
  rw [Run_at T _ (show T f_curvetlaw6_MontBack = some m_curvetlaw6_MontBack from rfl)]
  simp only [c_curvetlaw6_MontBack, zero9]
  have c0 := r_awake
  have c2 := r_Num 0
  have k0 := eqis 0
  have n1 := fun x => num_noHp x 6
  have i9 : ixOf 9 (.i 0) = some 0 := rfl
  have p0 := dl_partL (L := 9) (x := m) (show 0 < 9 by omega)
  rw [Nat.mul_zero, Nat.pow_zero, Nat.div_one] at p0
  obtain ⟨o1, o2, o3⟩ := or_odd (x := m % 2 ^ 64) (k := 5) rfl (by omega) (Nat.mod_lt _ (Nat.two_pow_pos 64)) (by omega)
  obtain ⟨w, hw⟩ : ∃ w, w = (m % 2 ^ 64 ||| 5) := ⟨_, rfl⟩
  rw [← hw] at o1 o2 o3
  have st := low0_set (m := m) o3
  have hoM := low0_lt hm o3
  obtain ⟨ho, h3⟩ := low0_odd (m := m) o1 o2
  obtain ⟨o, hoe⟩ : ∃ o, o = low0 m w := ⟨_, rfl⟩
  rw [← hoe] at st hoM ho h3
  obtain ⟨mw, hmw⟩ : ∃ w, w = m % 2 ^ 64 := ⟨_, rfl⟩
  rw [← hmw] at p0 hw
  have h0 : o ≠ 0 := by omega
  have hop : 0 < o := by omega
  have d1 := r_New hoM ho h3
  have f0 := r_From hoM
  have f1 := r_From ha
  have f2 := r_From hb
  have la := lenMb ha
  have lb := lenMb hb
  have lo := lenMb hoM
  have f3 := r_refMod (a := a) (m := o) (by omega) (by omega) h0
  have f4 := r_refMod (a := b) (m := o) (by omega) (by omega) h0
  have hp : a % o < o := Nat.mod_lt _ hop
  have hq : b % o < o := Nat.mod_lt _ hop
  have f5 := r_Nat (fitMb (x := a % o) (by omega))
  have f6 := r_Nat (fitMb (x := b % o) (by omega))
  obtain ⟨p, hpe⟩ : ∃ p, p = a % o := ⟨_, rfl⟩
  obtain ⟨q, hqe⟩ : ∃ p, p = b % o := ⟨_, rfl⟩
  rw [← hpe] at f3 f5 hp
  rw [← hqe] at f4 f6 hq
  have d2 := r_To hoM ho h3 hp
  have d3 := r_To hoM ho h3 hq
  have d4 := r_MMul (a := p * monR o % o) (b := q * monR o % o) hoM ho h3 (Nat.mod_lt _ hop) (Nat.mod_lt _ hop)
  have d5 := r_MFrom (a := p * monR o % o * (q * monR o % o) * monI o % o) hoM ho h3 (Nat.mod_lt _ hop)
  rw [back_prod ho h3] at d5
  have d6 := r_MFrom (a := p * monR o % o) hoM ho h3 (Nat.mod_lt _ hop)
  rw [back_form ho h3 hp] at d6
  have g1 := r_From (x := p) (by omega)
  have g2 := r_From (x := q) (by omega)
  have lp := lenMb (x := p) (by omega)
  have lq := lenMb (x := q) (by omega)
  have g3 := r_refMulMod (a := p) (b := q) (m := o) (by omega) (by omega) (by omega) h0
  have g4 := r_Nat (fitMb (x := p * q % o) (by have := Nat.mod_lt (p * q) hop; omega))
  obtain ⟨t, ht⟩ : ∃ t, t = p * monR o % o := ⟨_, rfl⟩
  obtain ⟨u, hu⟩ : ∃ t, t = q * monR o % o := ⟨_, rfl⟩
  rw [← ht] at d2 d4 d5 d6
  rw [← hu] at d3 d4 d5
  obtain ⟨v, hv⟩ : ∃ z, z = t * u * monI o % o := ⟨_, rfl⟩
  rw [← hv] at d4 d5
  obtain ⟨pq, hpq⟩ : ∃ z, z = p * q % o := ⟨_, rfl⟩
  rw [← hpq] at d5 g3 g4
  have mn := mont_noHp o 6
  simp only [mont] at d1 d2 d3 d4 d5 d6 mn
  obtain ⟨X, hX⟩ : ∃ X, X = monL o (nw o) (lessV o) (monR o % o * (monR o % o) % o) := ⟨_, rfl⟩
  rw [← hX] at d1 d2 d3 d4 d5 d6 mn
  simp only [EE,Nat.le_refl,Nat.reduceLeDiff,List.drop_zero,us_take,us_drop,is_take,is_drop,List.take_zero,gn,if_true,if_false,Nat.reduceEqDiff,Int.reduceEq,reduceCtorEq,Nat.succ_ne_self,Nat.reduceAdd,Nat.zero_add,Nat.add_zero,Nat.reduceMul,Nat.mul_one,Nat.one_mul,Nat.zero_mul,Nat.sub_zero,decide_true,decide_false,Bool.and_self,Bool.and_true,Bool.true_and,Bool.false_and,Bool.and_false,Bool.not_true,Bool.not_false,List.length_cons,List.length_nil,us_len,is_len,tb_len,dl_len,us_set,is_set,tb_set,Nat.not_lt_zero,List.nil_append,us_rep,is_rep, c0, c2, k0, n1, i9, p0, ← hw, st, d1, d2, d3, d4, d5, d6, f0, f1, f2, f3, f4, f5, f6, g1, g2, g3, g4, mn, natv_noHp, eq9s, Bool.not_true, Bool.not_false]

theorem one_form {b m : Nat} (ho : m % 2 = 1) (h3 : 3 ≤ m) (hb : b < m) : b * (monR m % m) * monI m % m = b ∧ monR m % m * monI m % m = 1 := by
  obtain ⟨i1, i2⟩ := monI_ok ho h3
  constructor
  · have := back_form ho h3 hb
    rw [Nat.mul_right_comm, Nat.mul_mod_mod, Nat.mul_right_comm, ← Nat.mod_mul_mod]
    exact this
  · rw [Nat.mod_mul_mod, Nat.mul_comm]; exact i2
theorem inv_form {b i m : Nat} (ho : m % 2 = 1) (h3 : 3 ≤ m) (hi : i * b % m = 1) : b * (i * monR m * monR m % m) * monI m % m = monR m % m := by
  obtain ⟨i1, i2⟩ := monI_ok ho h3
  obtain ⟨R, hR⟩ : ∃ R, R = monR m := ⟨_, rfl⟩
  obtain ⟨I, hI⟩ : ∃ R, R = monI m := ⟨_, rfl⟩
  rw [← hR, ← hI] at i2 ⊢
  rw [Nat.mul_right_comm, Nat.mul_mod_mod]
  have e : b * I * (i * R * R) = R * (i * b) * (I * R) := by grind
  rw [e, Nat.mul_mod, i2, Nat.mul_one, Nat.mod_mod, Nat.mul_mod, hi, Nat.mul_one, Nat.mod_mod]

theorem law_MontOnes {m a : Nat} (hm : m < M) (ha : a < M) : Run T f_curvetlaw6_MontOnes [natv m, natv a] [] = some (.b true, []) := by
  rw [Run_at T _ (show T f_curvetlaw6_MontOnes = some m_curvetlaw6_MontOnes from rfl)]
  simp only [c_curvetlaw6_MontOnes, zero9]
  have c0 := r_awake
  have c2 := r_Num 0
  have c3 := r_Num 401
  have c4 := r_One (x := 1) (by omega)
  have k0 := eqis 0
  have k3 := eqis 401
  have i9 : ixOf 9 (.i 0) = some 0 := rfl
  have p0 := dl_partL (L := 9) (x := m) (show 0 < 9 by omega)
  rw [Nat.mul_zero, Nat.pow_zero, Nat.div_one] at p0
  obtain ⟨o1, o2, o3⟩ := or_odd (x := m % 2 ^ 64) (k := 3) rfl (by omega) (Nat.mod_lt _ (Nat.two_pow_pos 64)) (by omega)
  obtain ⟨w, hw⟩ : ∃ w, w = (m % 2 ^ 64 ||| 3) := ⟨_, rfl⟩
  rw [← hw] at o1 o2 o3
  have st := low0_set (m := m) o3
  have hoM := low0_lt hm o3
  obtain ⟨ho, h3⟩ := low0_odd (m := m) o1 o2
  obtain ⟨o, hoe⟩ : ∃ o, o = low0 m w := ⟨_, rfl⟩
  rw [← hoe] at st hoM ho h3
  obtain ⟨mw, hmw⟩ : ∃ w, w = m % 2 ^ 64 := ⟨_, rfl⟩
  rw [← hmw] at p0 hw
  have h0 : o ≠ 0 := by omega
  have hop : 0 < o := by omega
  have d1 := r_New hoM ho h3
  have d2 := r_Div ha hoM h0
  have hb : a % o < o := Nat.mod_lt _ hop
  obtain ⟨b, hbe⟩ : ∃ b, b = a % o := ⟨_, rfl⟩
  rw [← hbe] at d2 hb
  have d3 := r_To (a := 1) hoM ho h3 (by omega)
  rw [Nat.one_mul] at d3
  obtain ⟨e1, e2⟩ := one_form ho h3 hb
  have d4 := r_MMul (a := b) (b := monR o % o) hoM ho h3 hb (Nat.mod_lt _ hop)
  rw [e1] at d4
  have d5 := r_MFrom (a := monR o % o) hoM ho h3 (Nat.mod_lt _ hop)
  rw [e2] at d5
  have mn := mont_noHp o 6
  have d8 : decide ((401 : Int) = 0) = false := by decide
  by_cases hg : Nat.gcd o b = 1
  · obtain ⟨i, hi1, hi2, d6⟩ := r_MInv hoM ho h3 hb hg
    have d7 := r_MMul (a := b) (b := i * monR o * monR o % o) hoM ho h3 hb (Nat.mod_lt _ hop)
    rw [inv_form ho h3 hi2] at d7
    obtain ⟨j, _, _, d9⟩ := r_Inverse (a := b) (by omega) hoM (by omega) (by omega) hg
    obtain ⟨y, hy⟩ : ∃ y, y = i * monR o * monR o % o := ⟨_, rfl⟩
    rw [← hy] at d6 d7
    obtain ⟨u, hu⟩ : ∃ y, y = monR o % o := ⟨_, rfl⟩
    simp only [mont] at d1 d3 d4 d5 d6 d7 mn
    obtain ⟨X, hX⟩ : ∃ X, X = monL o (nw o) (lessV o) (monR o % o * (monR o % o) % o) := ⟨_, rfl⟩
    rw [← hX] at d1 d3 d4 d5 d6 d7 mn
    rw [← hu] at d3 d4 d5 d7
    simp only [EE,Nat.le_refl,Nat.reduceLeDiff,List.drop_zero,us_take,us_drop,is_take,is_drop,List.take_zero,gn,if_true,if_false,Nat.reduceEqDiff,Int.reduceEq,reduceCtorEq,Nat.succ_ne_self,Nat.reduceAdd,Nat.zero_add,Nat.add_zero,Nat.reduceMul,Nat.mul_one,Nat.one_mul,Nat.zero_mul,Nat.sub_zero,decide_true,decide_false,Bool.and_self,Bool.and_true,Bool.true_and,Bool.false_and,Bool.and_false,Bool.not_true,Bool.not_false,List.length_cons,List.length_nil,us_len,is_len,tb_len,dl_len,us_set,is_set,tb_set,Nat.not_lt_zero,List.nil_append,us_rep,is_rep, c0, c2, c4, k0, i9, p0, ← hw, st, d1, d2, d3, d4, d5, d6, d7, d9, mn, natv_noHp, eq9s, Bool.not_true, Bool.not_false]
  · have d6 := r_MInv_none hoM ho h3 hb hg
    have d7 := r_MMul (a := b) (b := 0) hoM ho h3 hb hop
    rw [Nat.mul_zero, Nat.zero_mul, Nat.zero_mod] at d7
    have d9 := r_Inverse_none (a := b) (by omega) hoM (by omega) (.inr hg)
    obtain ⟨u, hu⟩ : ∃ y, y = monR o % o := ⟨_, rfl⟩
    simp only [mont] at d1 d3 d4 d5 d6 d7 mn
    obtain ⟨X, hX⟩ : ∃ X, X = monL o (nw o) (lessV o) (monR o % o * (monR o % o) % o) := ⟨_, rfl⟩
    rw [← hX] at d1 d3 d4 d5 d6 d7 mn
    rw [← hu] at d3 d4 d5
    simp only [EE,Nat.le_refl,Nat.reduceLeDiff,List.drop_zero,us_take,us_drop,is_take,is_drop,List.take_zero,gn,if_true,if_false,Nat.reduceEqDiff,Int.reduceEq,reduceCtorEq,Nat.succ_ne_self,Nat.reduceAdd,Nat.zero_add,Nat.add_zero,Nat.reduceMul,Nat.mul_one,Nat.one_mul,Nat.zero_mul,Nat.sub_zero,decide_true,decide_false,Bool.and_self,Bool.and_true,Bool.true_and,Bool.false_and,Bool.and_false,Bool.not_true,Bool.not_false,List.length_cons,List.length_nil,us_len,is_len,tb_len,dl_len,us_set,is_set,tb_set,Nat.not_lt_zero,List.nil_append,us_rep,is_rep, c0, c2, c3, c4, k0, k3, i9, p0, ← hw, st, d1, d2, d3, d4, d5, d6, d7, d8, d9, mn, natv_noHp, eq9s, Bool.not_true, Bool.not_false]

theorem add_lem {x y c : Nat} (hx : x < 2 ^ 64) (hy : y < 2 ^ 64) (hc : c ≤ 1) : ((x + y) % 2 ^ 64 + c) % 2 ^ 64 = (x + y + c) % 2 ^ 64 ∧
    (((x + y) % 2 ^ 64 < x ∧ (x + y + c) / 2 ^ 64 = 1) ∨ (¬ (x + y) % 2 ^ 64 < x ∧ (x + y + c) % 2 ^ 64 < (x + y) % 2 ^ 64 ∧ (x + y + c) / 2 ^ 64 = 1) ∨ (¬ (x + y) % 2 ^ 64 < x ∧ ¬ (x + y + c) % 2 ^ 64 < (x + y) % 2 ^ 64 ∧ (x + y + c) / 2 ^ 64 = 0)) := by
  omega

theorem r_law6add {a b : Nat} (hab : a + b < M) : Run T f_curvetlaw6_add [natv a, natv b] [] = some (natv (a + b), []) := by
  rw [Run_at T _ (show T f_curvetlaw6_add = some m_curvetlaw6_add from rfl)]
  simp only [c_curvetlaw6_add, zero9]
  obtain ⟨x, hx⟩ : ∃ f : Nat → Nat, ∀ i, f i = a / 2 ^ (64 * i) % 2 ^ 64 := ⟨_, fun _ => rfl⟩
  obtain ⟨y, hy⟩ : ∃ f : Nat → Nat, ∀ i, f i = b / 2 ^ (64 * i) % 2 ^ 64 := ⟨_, fun _ => rfl⟩
  obtain ⟨z, hz⟩ : ∃ f : Nat → Nat, ∀ i, f i = (a + b) / 2 ^ (64 * i) % 2 ^ 64 := ⟨_, fun _ => rfl⟩
  obtain ⟨c, hc⟩ : ∃ f : Nat → Nat, ∀ i, f i = (a % 2 ^ (64 * i) + b % 2 ^ (64 * i)) / 2 ^ (64 * i) := ⟨_, fun _ => rfl⟩
  have hxl : ∀ i, x i < 2 ^ 64 := fun i => by rw [hx]; exact Nat.mod_lt _ (Nat.two_pow_pos 64)
  have hyl : ∀ i, y i < 2 ^ 64 := fun i => by rw [hy]; exact Nat.mod_lt _ (Nat.two_pow_pos 64)
  have hcl : ∀ i, c i ≤ 1 := fun i => by rw [hc]; exact carry_le 64 a b i
  have hlo : ∀ i, (x i + y i + c i) % 2 ^ 64 = z i := fun i => by rw [hx, hy, hc, hz]; exact carry_lo 64 a b i
  have hhi : ∀ i, (x i + y i + c i) / 2 ^ 64 = c (i + 1) := fun i => by rw [hx, hy, hc, hc]; exact carry_hi 64 a b i
  have c00 : c 0 = 0 := by rw [hc]; simp [Nat.mod_one]
  have px : ∀ i, i < 9 → part (us 64 (dl 64 9 a)) i none = some (.u 64 (x i)) := fun i hi => by rw [hx]; exact dl_partL hi
  have py : ∀ i, i < 9 → part (us 64 (dl 64 9 b)) i none = some (.u 64 (y i)) := fun i hi => by rw [hy]; exact dl_partL hi
  simp only [EE,Nat.le_refl,Nat.reduceLeDiff,List.drop_zero,us_take,us_drop,is_take,is_drop,List.take_zero,gn,if_true,if_false,Nat.reduceEqDiff,Int.reduceEq,reduceCtorEq,Nat.succ_ne_self,Nat.reduceAdd,Nat.zero_add,Nat.add_zero,Nat.reduceMul,Nat.mul_one,Nat.one_mul,Nat.zero_mul,Nat.sub_zero,decide_true,decide_false,Bool.and_self,Bool.and_true,Bool.true_and,Bool.false_and,Bool.and_false,Bool.not_true,Bool.not_false,List.length_cons,List.length_nil,us_len,is_len,tb_len,dl_len,us_set,is_set,tb_set,Nat.not_lt_zero,List.nil_append,us_rep,is_rep]
  rw [loop_use T (fun i => ⟨[(2, .vr (us 64 (dl 64 9 a)) 0), (3, .vr (us 64 (dl 64 9 b)) 0), (4, .loc (us 64 (dl 64 9 0))), (5, .loc (us 64 (tb 9 fun j => if j < i then z j else 0))), (6, .u 64 (c i)), (7, .i (i : Int))], []⟩) 9
    (.exit 0, ⟨[(4, .loc (us 64 (dl 64 9 0))), (5, .loc (us 64 (dl 64 9 (a + b))))], []⟩) ?h0 (by simp) ?hs ?hn]
  · simp only [EE,Nat.le_refl,Nat.reduceLeDiff,List.drop_zero,us_take,us_drop,is_take,is_drop,List.take_zero,gn,if_true,if_false,Nat.reduceEqDiff,Int.reduceEq,reduceCtorEq,Nat.succ_ne_self,Nat.reduceAdd,Nat.zero_add,Nat.add_zero,Nat.reduceMul,Nat.mul_one,Nat.one_mul,Nat.zero_mul,Nat.sub_zero,decide_true,decide_false,Bool.and_self,Bool.and_true,Bool.true_and,Bool.false_and,Bool.and_false,Bool.not_true,Bool.not_false,List.length_cons,List.length_nil,us_len,is_len,tb_len,dl_len,us_set,is_set,tb_set,Nat.not_lt_zero,List.nil_append,us_rep,is_rep]
  · have : dl 64 9 0 = tb 9 (fun j => if j < 0 then z j else 0) := tb_congr fun j hj => by
      rw [if_neg (by omega), Nat.zero_div, Nat.zero_mod]
    rw [← this, c00]; rfl
  · intro i hi
    have l1 : decide ((i : Int) < 9) = true := decide_eq_true (by omega)
    have l2 := ixOf_nat hi
    have l3 := px i hi
    have l4 := py i hi
    have l5 : F (w64 ((i : Int) + 1)) ((i + 1 : Nat) : Int) := ⟨by unfold w64; omega⟩
    have l6 : (i + 1 ≤ 9) = True := by simp; omega
    have l7 := tb_step (n := 9) (i := i) z 0
    obtain ⟨a1, a2⟩ := add_lem (hxl i) (hyl i) (hcl i)
    rw [hlo] at a1 a2
    rw [hhi] at a2
    obtain ⟨s, hs⟩ : ∃ s, s = (x i + y i) % 2 ^ 64 := ⟨_, rfl⟩
    rw [← hs] at a1 a2
    rcases a2 with ⟨b1, b2⟩ | ⟨b1, b2, b3⟩ | ⟨b1, b2, b3⟩
    · have d1 : decide (s < x i) = true := decide_eq_true b1
      rw [b2]
      simp only [EE,Nat.le_refl,Nat.reduceLeDiff,List.drop_zero,us_take,us_drop,is_take,is_drop,List.take_zero,gn,if_true,if_false,Nat.reduceEqDiff,Int.reduceEq,reduceCtorEq,Nat.succ_ne_self,Nat.reduceAdd,Nat.zero_add,Nat.add_zero,Nat.reduceMul,Nat.mul_one,Nat.one_mul,Nat.zero_mul,Nat.sub_zero,decide_true,decide_false,Bool.and_self,Bool.and_true,Bool.true_and,Bool.false_and,Bool.and_false,Bool.not_true,Bool.not_false,List.length_cons,List.length_nil,us_len,is_len,tb_len,dl_len,us_set,is_set,tb_set,Nat.not_lt_zero,List.nil_append,us_rep,is_rep, l1, l2, l3, l4, l5.eq, l6, l7, ← hs, a1, d1]
    · have d1 : decide (s < x i) = false := decide_eq_false b1
      have d2 : decide (z i < s) = true := decide_eq_true b2
      rw [b3]
      simp only [EE,Nat.le_refl,Nat.reduceLeDiff,List.drop_zero,us_take,us_drop,is_take,is_drop,List.take_zero,gn,if_true,if_false,Nat.reduceEqDiff,Int.reduceEq,reduceCtorEq,Nat.succ_ne_self,Nat.reduceAdd,Nat.zero_add,Nat.add_zero,Nat.reduceMul,Nat.mul_one,Nat.one_mul,Nat.zero_mul,Nat.sub_zero,decide_true,decide_false,Bool.and_self,Bool.and_true,Bool.true_and,Bool.false_and,Bool.and_false,Bool.not_true,Bool.not_false,List.length_cons,List.length_nil,us_len,is_len,tb_len,dl_len,us_set,is_set,tb_set,Nat.not_lt_zero,List.nil_append,us_rep,is_rep, l1, l2, l3, l4, l5.eq, l6, l7, ← hs, a1, d1, d2]
    · have d1 : decide (s < x i) = false := decide_eq_false b1
      have d2 : decide (z i < s) = false := decide_eq_false b2
      rw [b3]
      simp only [EE,Nat.le_refl,Nat.reduceLeDiff,List.drop_zero,us_take,us_drop,is_take,is_drop,List.take_zero,gn,if_true,if_false,Nat.reduceEqDiff,Int.reduceEq,reduceCtorEq,Nat.succ_ne_self,Nat.reduceAdd,Nat.zero_add,Nat.add_zero,Nat.reduceMul,Nat.mul_one,Nat.one_mul,Nat.zero_mul,Nat.sub_zero,decide_true,decide_false,Bool.and_self,Bool.and_true,Bool.true_and,Bool.false_and,Bool.and_false,Bool.not_true,Bool.not_false,List.length_cons,List.length_nil,us_len,is_len,tb_len,dl_len,us_set,is_set,tb_set,Nat.not_lt_zero,List.nil_append,us_rep,is_rep, l1, l2, l3, l4, l5.eq, l6, l7, ← hs, a1, d1, d2]
  · have l1 : decide (((9 : Nat) : Int) < 9) = false := by simp
    have l2 : tb 9 (fun j => if j < 9 then z j else 0) = dl 64 9 (a + b) := tb_congr fun j hj => by rw [if_pos hj, hz]
    simp only [EE,Nat.le_refl,Nat.reduceLeDiff,List.drop_zero,us_take,us_drop,is_take,is_drop,List.take_zero,gn,if_true,if_false,Nat.reduceEqDiff,Int.reduceEq,reduceCtorEq,Nat.succ_ne_self,Nat.reduceAdd,Nat.zero_add,Nat.add_zero,Nat.reduceMul,Nat.mul_one,Nat.one_mul,Nat.zero_mul,Nat.sub_zero,decide_true,decide_false,Bool.and_self,Bool.and_true,Bool.true_and,Bool.false_and,Bool.and_false,Bool.not_true,Bool.not_false,List.length_cons,List.length_nil,us_len,is_len,tb_len,dl_len,us_set,is_set,tb_set,Nat.not_lt_zero,List.nil_append,us_rep,is_rep, l1, l2]

theorem shares {p q r I o : Nat} : p * ((q + r) * 1 % o) * I % o = (p * q * I % o + p * r * I % o) * 1 % o := by
  rw [Nat.mul_one, Nat.mul_one, ← Nat.add_mod, Nat.mul_right_comm, Nat.mul_mod_mod]
  congr 1
  grind

theorem law_MontShares {m a b c : Nat} (hm : m < M) (ha : a < M) (hb : b < M) (hc : c < M) : Run T f_curvetlaw6_MontShares [natv m, natv a, natv b, natv c] [] = some (.b true, []) := by
  rw [Run_at T _ (show T f_curvetlaw6_MontShares = some m_curvetlaw6_MontShares from rfl)]
  simp only [c_curvetlaw6_MontShares, zero9]
  have c0 := r_awake
  have c2 := r_Num 0
  have c4 := r_One (x := 1) (by omega)
  have k0 := eqis 0
  have i9 : ixOf 9 (.i 0) = some 0 := rfl
  have c5 := r_lawNat hm (b := 500) (by omega)
  rw [show ((500 : Nat) : Int) = 500 from rfl] at c5
  have hm5 : m % 2 ^ 500 < 2 ^ 500 := Nat.mod_lt _ (Nat.two_pow_pos 500)
  have h500 : 2 ^ 500 * 4 ≤ M := by unfold M; rw [show (4 : Nat) = 2 ^ 2 by rfl, ← Nat.pow_add]; exact Nat.pow_le_pow_right (by omega) (by omega)
  have h564 : ∃ K, 2 ^ 500 = 2 ^ 64 * K := ⟨2 ^ 436, by rw [← Nat.pow_add]⟩
  obtain ⟨m5, hme⟩ : ∃ z, z = m % 2 ^ 500 := ⟨_, rfl⟩
  obtain ⟨P, hP⟩ : ∃ z, z = 2 ^ 500 := ⟨_, rfl⟩
  rw [← hme] at c5 hm5
  rw [← hP] at hm5 h500 h564
  have p0 := dl_partL (L := 9) (x := m5) (show 0 < 9 by omega)
  rw [Nat.mul_zero, Nat.pow_zero, Nat.div_one] at p0
  obtain ⟨o1, o2, o3⟩ := or_odd (x := m5 % 2 ^ 64) (k := 3) rfl (by omega) (Nat.mod_lt _ (Nat.two_pow_pos 64)) (by omega)
  obtain ⟨w, hw⟩ : ∃ w, w = (m5 % 2 ^ 64 ||| 3) := ⟨_, rfl⟩
  rw [← hw] at o1 o2 o3
  have st := low0_set (m := m5) o3
  have hoP : low0 m5 w < P := by
    obtain ⟨K, hK⟩ := h564
    unfold low0
    rw [hK] at hm5 ⊢
    omega
  obtain ⟨ho, h3⟩ := low0_odd (m := m5) o1 o2
  obtain ⟨o, hoe⟩ : ∃ o, o = low0 m5 w := ⟨_, rfl⟩
  rw [← hoe] at st hoP ho h3
  obtain ⟨mw, hmw⟩ : ∃ w, w = m5 % 2 ^ 64 := ⟨_, rfl⟩
  rw [← hmw] at p0 hw
  have hoM : o < M := by omega
  have h0 : o ≠ 0 := by omega
  have hop : 0 < o := by omega
  have d1 := r_New hoM ho h3
  have d2 := r_Div ha hoM h0
  have d3 := r_Div hb hoM h0
  have d4 := r_Div hc hoM h0
  have hp : a % o < o := Nat.mod_lt _ hop
  have hq : b % o < o := Nat.mod_lt _ hop
  have hr : c % o < o := Nat.mod_lt _ hop
  obtain ⟨p, hpe⟩ : ∃ p, p = a % o := ⟨_, rfl⟩
  obtain ⟨q, hqe⟩ : ∃ p, p = b % o := ⟨_, rfl⟩
  obtain ⟨r, hre⟩ : ∃ p, p = c % o := ⟨_, rfl⟩
  rw [← hpe] at d2 hp
  rw [← hqe] at d3 hq
  rw [← hre] at d4 hr
  have d5 := r_law6add (a := q) (b := r) (by omega)
  have hM1 : 1 < M := by unfold M; exact Nat.one_lt_two_pow (by omega)
  have d6 := r_MulMod (a := q + r) (b := 1) (by omega) hM1 hoM h0
  have d7 := r_MMul (a := p) (b := (q + r) * 1 % o) hoM ho h3 hp (Nat.mod_lt _ hop)
  have d8 := r_MMul (a := p) (b := q) hoM ho h3 hp hq
  have d9 := r_MMul (a := p) (b := r) hoM ho h3 hp hr
  have hv : p * q * monI o % o < o := Nat.mod_lt _ hop
  have hw' : p * r * monI o % o < o := Nat.mod_lt _ hop
  have d10 := r_law6add (a := p * q * monI o % o) (b := p * r * monI o % o) (by omega)
  have d11 := r_MulMod (a := p * q * monI o % o + p * r * monI o % o) (b := 1) (by omega) hM1 hoM h0
  rw [← shares] at d11
  obtain ⟨v, hve⟩ : ∃ z, z = p * q * monI o % o := ⟨_, rfl⟩
  obtain ⟨x, hxe⟩ : ∃ z, z = p * r * monI o % o := ⟨_, rfl⟩
  rw [← hve] at d8 d10 d11
  rw [← hxe] at d9 d10 d11
  obtain ⟨y, hye⟩ : ∃ z, z = p * ((q + r) * 1 % o) * monI o % o := ⟨_, rfl⟩
  rw [← hye] at d7 d11
  obtain ⟨s, hse⟩ : ∃ z, z = (q + r) * 1 % o := ⟨_, rfl⟩
  rw [← hse] at d6 d7
  obtain ⟨qr, hqr⟩ : ∃ z, z = q + r := ⟨_, rfl⟩
  rw [← hqr] at d5 d6
  obtain ⟨vx, hvx⟩ : ∃ z, z = v + x := ⟨_, rfl⟩
  rw [← hvx] at d10 d11
  have mn := mont_noHp o 6
  simp only [mont] at d1 d7 d8 d9 mn
  obtain ⟨X, hX⟩ : ∃ X, X = monL o (nw o) (lessV o) (monR o % o * (monR o % o) % o) := ⟨_, rfl⟩
  rw [← hX] at d1 d7 d8 d9 mn
  simp only [EE,Nat.le_refl,Nat.reduceLeDiff,List.drop_zero,us_take,us_drop,is_take,is_drop,List.take_zero,gn,if_true,if_false,Nat.reduceEqDiff,Int.reduceEq,reduceCtorEq,Nat.succ_ne_self,Nat.reduceAdd,Nat.zero_add,Nat.add_zero,Nat.reduceMul,Nat.mul_one,Nat.one_mul,Nat.zero_mul,Nat.sub_zero,decide_true,decide_false,Bool.and_self,Bool.and_true,Bool.true_and,Bool.false_and,Bool.and_false,Bool.not_true,Bool.not_false,List.length_cons,List.length_nil,us_len,is_len,tb_len,dl_len,us_set,is_set,tb_set,Nat.not_lt_zero,List.nil_append,us_rep,is_rep, c0, c2, c4, c5, k0, i9, p0, ← hw, st, d1, d2, d3, d4, d5, d6, d7, d8, d9, d10, d11, mn, natv_noHp, eq9s, Bool.not_true, Bool.not_false]

theorem nw_small {k : Nat} (h1 : 1 ≤ k) (h : k < 2 ^ 64) : nw k = 1 := by
  have hk : k < M := Nat.lt_trans h (by unfold M; exact Nat.pow_lt_pow_right (by omega) (by omega))
  rcases Nat.lt_or_ge 1 (nw k) with h2 | h2
  · obtain ⟨_, h4⟩ := nw_pos hk (by omega)
    exact absurd (Nat.div_eq_of_lt (Nat.lt_of_lt_of_le h (Nat.pow_le_pow_right (by omega) (by omega)))) h4
  · rcases Nat.eq_zero_or_pos (nw k) with h3 | h3
    · have := nw_zero hk h3; omega
    · omega

theorem law_MontTiny {m a b : Int} (_ : -9223372036854775808 ≤ m) (_ : m < 9223372036854775808) (_ : -9223372036854775808 ≤ a) (_ : a < 9223372036854775808) (_ : -9223372036854775808 ≤ b) (_ : b < 9223372036854775808) :
    Run T f_curvetlaw6_MontTiny [.i m, .i a, .i b] [] = some (.b true, []) := by
  rw [Run_at T _ (show T f_curvetlaw6_MontTiny = some m_curvetlaw6_MontTiny from rfl)]
  simp only [c_curvetlaw6_MontTiny, zero9]
  have c0 := r_awake
  have c2 := r_Num 0
  have c3 := r_Num 601
  have k0 := eqis 0
  have k3 := eqis 601
  obtain ⟨mu, hmu⟩ : ∃ z, z = (m % 2 ^ 64).toNat := ⟨_, rfl⟩
  obtain ⟨au, hau⟩ : ∃ z, z = (a % 2 ^ 64).toNat := ⟨_, rfl⟩
  obtain ⟨bu, hbu⟩ : ∃ z, z = (b % 2 ^ 64).toNat := ⟨_, rfl⟩
  obtain ⟨r, hr⟩ : ∃ z, z = mu % 126 := ⟨_, rfl⟩
  obtain ⟨k, hk⟩ : ∃ z, z = 3 + 2 * r := ⟨_, rfl⟩
  have hr126 : r < 126 := by rw [hr]; exact Nat.mod_lt _ (by omega)
  have e126 : decide (126 = 0) = false := rfl
  have w1 : F (w64 ((r : Nat) : Int)) (r : Int) := ⟨by unfold w64; omega⟩
  obtain ⟨r2, hr2⟩ : ∃ z, z = 2 * r := ⟨_, rfl⟩
  have w2 : F (w64 (2 * (r : Int))) (r2 : Int) := ⟨by unfold w64; omega⟩
  have w3 : F (w64 (3 + (r2 : Int))) (k : Int) := ⟨by unfold w64; omega⟩
  have w4 : F (((k : Int) % 2 ^ 64).toNat) k := ⟨by omega⟩
  have hk64 : k < 2 ^ 64 := by omega
  have h64 : 2 ^ 64 < M := by unfold M; exact Nat.pow_lt_pow_right (by omega) (by omega)
  have hkM : k < M := by omega
  have ho : k % 2 = 1 := by omega
  have h3 : 3 ≤ k := by omega
  have hkp : 0 < k := by omega
  have o1 := r_One hk64
  have d1 := r_New hkM ho h3
  have d0 := r_Words (m := k)
  rw [nw_small (by omega) hk64] at d0
  have ek : decide (k = 0) = false := decide_eq_false (by omega)
  have hp : au % k < k := Nat.mod_lt _ hkp
  have hq : bu % k < k := Nat.mod_lt _ hkp
  obtain ⟨p, hpe⟩ : ∃ z, z = au % k := ⟨_, rfl⟩
  obtain ⟨q, hqe⟩ : ∃ z, z = bu % k := ⟨_, rfl⟩
  rw [← hpe] at hp
  rw [← hqe] at hq
  have o2 := r_One (x := p) (by omega)
  have o3 := r_One (x := q) (by omega)
  have d2 := r_To hkM ho h3 hp
  have d3 := r_To hkM ho h3 hq
  have d4 := r_MMul (a := p * monR k % k) (b := q * monR k % k) hkM ho h3 (Nat.mod_lt _ hkp) (Nat.mod_lt _ hkp)
  have d5 := r_MFrom (a := p * monR k % k * (q * monR k % k) * monI k % k) hkM ho h3 (Nat.mod_lt _ hkp)
  rw [back_prod ho h3] at d5
  have hul : q * monR k % k < M := by have := Nat.mod_lt (q * monR k) hkp; omega
  have d6 := r_MMul_no (a := k) (b := q * monR k % k) hkM ho h3 (.inl (Nat.le_refl k)) hkM hul
  obtain ⟨kq, hkq⟩ : ∃ z, z = k + q := ⟨_, rfl⟩
  have w5 : F ((k + q) % 2 ^ 64) kq := ⟨by omega⟩
  have o4 := r_One (x := kq) (by omega)
  have d7 := r_MFrom_no (a := kq) hkM ho h3 (by omega) (by omega)
  have hpq : p * q < 2 ^ 64 := by
    have : p * q ≤ 300 * 300 := Nat.mul_le_mul (by omega) (by omega)
    omega
  have w6 : F (p * q % 2 ^ 64) (p * q) := ⟨Nat.mod_eq_of_lt hpq⟩
  have hpk : p * q % k < k := Nat.mod_lt _ hkp
  have o5 := r_One (x := p * q % k) (by omega)
  obtain ⟨t, ht⟩ : ∃ t, t = p * monR k % k := ⟨_, rfl⟩
  obtain ⟨u, hu⟩ : ∃ t, t = q * monR k % k := ⟨_, rfl⟩
  rw [← ht] at d2 d4 d5
  rw [← hu] at d3 d4 d5 d6
  obtain ⟨v, hv⟩ : ∃ z, z = t * u * monI k % k := ⟨_, rfl⟩
  rw [← hv] at d4 d5
  obtain ⟨pk, hpke⟩ : ∃ z, z = p * q % k := ⟨_, rfl⟩
  rw [← hpke] at d5 o5
  have mn := mont_noHp k 6
  simp only [mont] at d0 d1 d2 d3 d4 d5 d6 d7 mn
  obtain ⟨X, hX⟩ : ∃ X, X = monL k (nw k) (lessV k) (monR k % k * (monR k % k) % k) := ⟨_, rfl⟩
  rw [← hX] at d0 d1 d2 d3 d4 d5 d6 d7 mn
  have n11 : decide (((1 : Nat) : Int) = 1) = true := rfl
  simp only [EE,Nat.le_refl,Nat.reduceLeDiff,List.drop_zero,us_take,us_drop,is_take,is_drop,List.take_zero,gn,if_true,if_false,Nat.reduceEqDiff,Int.reduceEq,reduceCtorEq,Nat.succ_ne_self,Nat.reduceAdd,Nat.zero_add,Nat.add_zero,Nat.reduceMul,Nat.mul_one,Nat.one_mul,Nat.zero_mul,Nat.sub_zero,decide_true,decide_false,Bool.and_self,Bool.and_true,Bool.true_and,Bool.false_and,Bool.and_false,Bool.not_true,Bool.not_false,List.length_cons,List.length_nil,us_len,is_len,tb_len,dl_len,us_set,is_set,tb_set,Nat.not_lt_zero,List.nil_append,us_rep,is_rep, c0, c2, c3, k0, k3, ← hmu, ← hau, ← hbu, e126, ← hr, w1.eq, w2.eq, w3.eq, w4.eq, o1, d0, d1, n11, ek, ← hpe, ← hqe, o2, o3, d2, d3, d4, d5, d6, w5.eq, o4, d7, w6.eq, ← hpke, o5, mn, natv_noHp, eq9s, Bool.not_true, Bool.not_false]

end Mir
