/- Chapter 4, laws as the small language runs them: products, quotients, rests. Conditions: none. -/
import Derived.Test.YtbbgobliklljjaaAllD
import Derived.Test.YtbbgobliklljjaaAllN
import Derived.Test.YtbbgobliklljjaaAwake4
set_option linter.unusedVariables false
set_option linter.unusedSimpArgs false
set_option exponentiation.threshold 5000
set_option maxRecDepth 20000
namespace Mir

theorem cmpI_self (x : Nat) : cmpI x x = 0 := by simp [cmpI]
theorem hM0 : 0 < M := by unfold M; exact Nat.two_pow_pos _
theorem hM1 : 1 < M := by unfold M; exact Nat.one_lt_two_pow (by omega)
theorem mod_M {x m : Nat} (hm : m < M) (h0 : m ≠ 0) : x % m < M := Nat.lt_trans (Nat.mod_lt _ (Nat.pos_of_ne_zero h0)) hm

theorem law_DivideTimes {a b c m : Nat} (ha : a < M) (hb : b < M) (hc : c < M) (hm : m < M) : Run T f_curvetlaw4_DivideTimes [natv a, natv b, natv c, natv m] [] = some (.b true, []) := by
  rw [Run_at T _ (show T f_curvetlaw4_DivideTimes = some m_curvetlaw4_DivideTimes from rfl)]
  simp only [c_curvetlaw4_DivideTimes, zero9]
  have c0 := r_awake
  have c1 := eq9 hm hM0
  by_cases h0 : m = 0
  · have k1 : decide (m = 0) = true := decide_eq_true h0
    rw [k1] at c1
    simp only [EE,Nat.le_refl,Nat.reduceLeDiff,List.drop_zero,us_take,us_drop,is_take,is_drop,List.take_zero,gn,if_true,if_false,Nat.reduceEqDiff,Int.reduceEq,reduceCtorEq,Nat.succ_ne_self,Nat.reduceAdd,Nat.zero_add,Nat.add_zero,Nat.reduceMul,Nat.mul_one,Nat.one_mul,Nat.zero_mul,Nat.sub_zero,decide_true,decide_false,Bool.and_self,Bool.and_true,Bool.true_and,Bool.false_and,Bool.and_false,Bool.not_true,Bool.not_false,List.length_cons,List.length_nil,us_len,is_len,tb_len,dl_len,us_set,is_set,tb_set,Nat.not_lt_zero,List.nil_append,us_rep,is_rep, c0, c1]
  · have k1 : decide (m = 0) = false := decide_eq_false h0
    rw [k1] at c1
    have c2 := r_MulMod ha hb hm h0
    have c3 := r_MulMod (a := a * b % m) (mod_M hm h0) hc hm h0
    have c4 := r_MulMod hb hc hm h0
    have c5 := r_MulMod (b := b * c % m) ha (mod_M hm h0) hm h0
    have c6 := r_MulMod hm ha hm h0
    have e1 : a * b % m * c % m = a * (b * c % m) % m := by rw [Nat.mod_mul_mod, Nat.mul_mod_mod, Nat.mul_assoc]
    rw [e1] at c3
    rw [Nat.mul_mod_right] at c6
    have c7 := r_Num 0
    have k3 := eqis 0
    obtain ⟨p, hp⟩ : ∃ p, p = a * b % m := ⟨_, rfl⟩
    obtain ⟨r, hr⟩ : ∃ p, p = b * c % m := ⟨_, rfl⟩
    rw [← hp] at c2 c3
    rw [← hr] at c3 c4 c5
    obtain ⟨s, hs⟩ : ∃ p, p = a * r % m := ⟨_, rfl⟩
    rw [← hs] at c3 c5
    simp only [EE,Nat.le_refl,Nat.reduceLeDiff,List.drop_zero,us_take,us_drop,is_take,is_drop,List.take_zero,gn,if_true,if_false,Nat.reduceEqDiff,Int.reduceEq,reduceCtorEq,Nat.succ_ne_self,Nat.reduceAdd,Nat.zero_add,Nat.add_zero,Nat.reduceMul,Nat.mul_one,Nat.one_mul,Nat.zero_mul,Nat.sub_zero,decide_true,decide_false,Bool.and_self,Bool.and_true,Bool.true_and,Bool.false_and,Bool.and_false,Bool.not_true,Bool.not_false,List.length_cons,List.length_nil,us_len,is_len,tb_len,dl_len,us_set,is_set,tb_set,Nat.not_lt_zero,List.nil_append,us_rep,is_rep, c0, c1, c2, c3, c4, c5, c6, c7, k3, eq9s, natv_noHp]

theorem law_DivideSmall {a b : Nat} (ha : a < M) (hb : b < M) : Run T f_curvetlaw4_DivideSmall [natv a, natv b] [] = some (.b true, []) := by
  rw [Run_at T _ (show T f_curvetlaw4_DivideSmall = some m_curvetlaw4_DivideSmall from rfl)]
  simp only [c_curvetlaw4_DivideSmall, zero9]
  have c0 := r_awake
  have c1 := r_One (x := 1) (by omega)
  have c2 := r_Div ha hM1 (by omega)
  rw [Nat.div_one, Nat.mod_one] at c2
  have c3 := r_natAdd ha hb
  have hs : (a + b) % M < M := Nat.mod_lt _ hM0
  have c4 := r_natCmp hs ha
  have c5 := r_Num 0
  have k3 := eqis 0
  by_cases h1 : M ≤ a + b
  · have k1 : decide (M ≤ a + b) = true := decide_eq_true h1
    rw [k1] at c3
    obtain ⟨s, hs'⟩ : ∃ s, s = (a + b) % M := ⟨_, rfl⟩
    rw [← hs'] at c3 c4
    simp only [EE,Nat.le_refl,Nat.reduceLeDiff,List.drop_zero,us_take,us_drop,is_take,is_drop,List.take_zero,gn,if_true,if_false,Nat.reduceEqDiff,Int.reduceEq,reduceCtorEq,Nat.succ_ne_self,Nat.reduceAdd,Nat.zero_add,Nat.add_zero,Nat.reduceMul,Nat.mul_one,Nat.one_mul,Nat.zero_mul,Nat.sub_zero,decide_true,decide_false,Bool.and_self,Bool.and_true,Bool.true_and,Bool.false_and,Bool.and_false,Bool.not_true,Bool.not_false,List.length_cons,List.length_nil,us_len,is_len,tb_len,dl_len,us_set,is_set,tb_set,Nat.not_lt_zero,List.nil_append,us_rep,is_rep, c0, c1, c2, c3, c4, c5, k3, eq9s, natv_noHp]
  · have k1 : decide (M ≤ a + b) = false := decide_eq_false h1
    rw [k1, Nat.mod_eq_of_lt (by omega)] at c3
    rw [Nat.mod_eq_of_lt (by omega)] at c4
    by_cases h2 : b = 0
    · subst h2
      rw [Nat.add_zero] at c3 c4
      rw [cmpI_self] at c4
      simp only [EE,Nat.le_refl,Nat.reduceLeDiff,List.drop_zero,us_take,us_drop,is_take,is_drop,List.take_zero,gn,if_true,if_false,Nat.reduceEqDiff,Int.reduceEq,reduceCtorEq,Nat.succ_ne_self,Nat.reduceAdd,Nat.zero_add,Nat.add_zero,Nat.reduceMul,Nat.mul_one,Nat.one_mul,Nat.zero_mul,Nat.sub_zero,decide_true,decide_false,Bool.and_self,Bool.and_true,Bool.true_and,Bool.false_and,Bool.and_false,Bool.not_true,Bool.not_false,List.length_cons,List.length_nil,us_len,is_len,tb_len,dl_len,us_set,is_set,tb_set,Nat.not_lt_zero,List.nil_append,us_rep,is_rep, c0, c1, c2, c3, c4, c5, k3, eq9s, natv_noHp]
    · have e1 : cmpI (a + b) a = 1 := by unfold cmpI; rw [if_neg (by omega), if_pos (by omega)]
      rw [e1] at c4
      have k4 : decide ((1 : Int) = 0) = false := by decide
      have c6 := r_Div (a := a) (m := a + b) ha (by omega) (by omega)
      rw [Nat.div_eq_of_lt (by omega), Nat.mod_eq_of_lt (by omega)] at c6
      obtain ⟨s, hs'⟩ : ∃ s, s = a + b := ⟨_, rfl⟩
      rw [← hs'] at c3 c4 c6
      simp only [EE,Nat.le_refl,Nat.reduceLeDiff,List.drop_zero,us_take,us_drop,is_take,is_drop,List.take_zero,gn,if_true,if_false,Nat.reduceEqDiff,Int.reduceEq,reduceCtorEq,Nat.succ_ne_self,Nat.reduceAdd,Nat.zero_add,Nat.add_zero,Nat.reduceMul,Nat.mul_one,Nat.one_mul,Nat.zero_mul,Nat.sub_zero,decide_true,decide_false,Bool.and_self,Bool.and_true,Bool.true_and,Bool.false_and,Bool.and_false,Bool.not_true,Bool.not_false,List.length_cons,List.length_nil,us_len,is_len,tb_len,dl_len,us_set,is_set,tb_set,Nat.not_lt_zero,List.nil_append,us_rep,is_rep, c0, c1, c2, c3, c4, c5, c6, k3, k4, eq9s, natv_noHp]

theorem law_DivideSums {a b m : Nat} (ha : a < M) (hb : b < M) (hm : m < M) : Run T f_curvetlaw4_DivideSums [natv a, natv b, natv m] [] = some (.b true, []) := by
  rw [Run_at T _ (show T f_curvetlaw4_DivideSums = some m_curvetlaw4_DivideSums from rfl)]
  simp only [c_curvetlaw4_DivideSums, zero9]
  have c0 := r_awake
  have e575 : ((575 : Nat) : Int) = 575 := rfl
  have e570 : ((570 : Nat) : Int) = 570 := rfl
  have hM2 : M = 2 ^ 575 * 2 := by unfold M; rw [← Nat.pow_succ]
  have hx := Nat.mod_lt a (Nat.two_pow_pos 575)
  have hy := Nat.mod_lt b (Nat.two_pow_pos 575)
  have hk := Nat.mod_lt m (Nat.two_pow_pos 570)
  have hM3 : 2 ^ 570 * 2 ≤ M := by unfold M; rw [← Nat.pow_succ]; exact Nat.pow_le_pow_right (by omega) (by omega)
  have c1 := r_lawNat ha (b := 575) (by omega)
  have c2 := r_lawNat hb (b := 575) (by omega)
  have c3 := r_lawNat hm (b := 570) (by omega)
  rw [e575] at c1 c2
  rw [e570] at c3
  obtain ⟨x, hx'⟩ : ∃ x, x = a % 2 ^ 575 := ⟨_, rfl⟩
  obtain ⟨y, hy'⟩ : ∃ x, x = b % 2 ^ 575 := ⟨_, rfl⟩
  obtain ⟨k, hk'⟩ : ∃ x, x = m % 2 ^ 570 := ⟨_, rfl⟩
  obtain ⟨P, hP⟩ : ∃ P, P = 2 ^ 575 := ⟨_, rfl⟩
  obtain ⟨Q, hQ⟩ : ∃ P, P = 2 ^ 570 := ⟨_, rfl⟩
  rw [← hx'] at c1 hx
  rw [← hy'] at c2 hy
  rw [← hk'] at c3 hk
  rw [← hP] at hx hy hM2
  rw [← hQ] at hk hM3
  have hxM : x < M := by omega
  have hyM : y < M := by omega
  have hsM : x + y < M := by omega
  have c4 := r_natAdd hxM hyM
  rw [Nat.mod_eq_of_lt hsM] at c4
  have c5 := eq9 hm hM0
  have c6 := r_Num 0
  have c7 := r_Num 400
  have k3 := eqis 0
  have k4 := eqis 400
  by_cases h0 : m = 0
  · have k1 : decide (m = 0) = true := decide_eq_true h0
    rw [k1] at c5
    subst h0
    have d1 := r_Div_no hxM
    have d2 := r_Div_no hyM
    have d3 := r_Div_no hsM
    simp only [EE,Nat.le_refl,Nat.reduceLeDiff,List.drop_zero,us_take,us_drop,is_take,is_drop,List.take_zero,gn,if_true,if_false,Nat.reduceEqDiff,Int.reduceEq,reduceCtorEq,Nat.succ_ne_self,Nat.reduceAdd,Nat.zero_add,Nat.add_zero,Nat.reduceMul,Nat.mul_one,Nat.one_mul,Nat.zero_mul,Nat.sub_zero,decide_true,decide_false,Bool.and_self,Bool.and_true,Bool.true_and,Bool.false_and,Bool.and_false,Bool.not_true,Bool.not_false,List.length_cons,List.length_nil,us_len,is_len,tb_len,dl_len,us_set,is_set,tb_set,Nat.not_lt_zero,List.nil_append,us_rep,is_rep, c0, c1, c2, c4, c5, c6, c7, d1, d2, d3, k3, k4, natv_noHp]
  · have k1 : decide (m = 0) = false := decide_eq_false h0
    rw [k1] at c5
    have d1 := r_Div hxM hm h0
    have d2 := r_Div hyM hm h0
    have d3 := r_Div hsM hm h0
    have c8 := eq9 (x := k) (y := m) (by omega) hm
    by_cases h1 : k = m
    · have k2 : decide (k = m) = true := decide_eq_true h1
      rw [k2] at c8
      have hmp := Nat.pos_of_ne_zero h0
      have hp := Nat.mod_lt x hmp
      have hq := Nat.mod_lt y hmp
      have e1 : (x + y) % m = (x % m + y % m) % m := Nat.add_mod x y m
      rw [e1] at d3
      obtain ⟨p, hp'⟩ : ∃ p, p = x % m := ⟨_, rfl⟩
      obtain ⟨q, hq'⟩ : ∃ p, p = y % m := ⟨_, rfl⟩
      rw [← hp'] at d1 d3 hp
      rw [← hq'] at d2 d3 hq
      have c9 := r_natAdd (x := p) (y := q) (by omega) (by omega)
      rw [Nat.mod_eq_of_lt (show p + q < M by omega)] at c9
      have d4 := r_Div (a := p + q) (by omega) hm h0
      obtain ⟨g1, hg1⟩ : ∃ z, z = x / m := ⟨_, rfl⟩
      obtain ⟨g2, hg2⟩ : ∃ z, z = y / m := ⟨_, rfl⟩
      obtain ⟨g3, hg3⟩ : ∃ z, z = (x + y) / m := ⟨_, rfl⟩
      obtain ⟨g4, hg4⟩ : ∃ z, z = (p + q) / m := ⟨_, rfl⟩
      obtain ⟨r, hr⟩ : ∃ z, z = (p + q) % m := ⟨_, rfl⟩
      rw [← hg1] at d1
      rw [← hg2] at d2
      rw [← hg3, ← hr] at d3
      rw [← hg4, ← hr] at d4
      simp only [EE,Nat.le_refl,Nat.reduceLeDiff,List.drop_zero,us_take,us_drop,is_take,is_drop,List.take_zero,gn,if_true,if_false,Nat.reduceEqDiff,Int.reduceEq,reduceCtorEq,Nat.succ_ne_self,Nat.reduceAdd,Nat.zero_add,Nat.add_zero,Nat.reduceMul,Nat.mul_one,Nat.one_mul,Nat.zero_mul,Nat.sub_zero,decide_true,decide_false,Bool.and_self,Bool.and_true,Bool.true_and,Bool.false_and,Bool.and_false,Bool.not_true,Bool.not_false,List.length_cons,List.length_nil,us_len,is_len,tb_len,dl_len,us_set,is_set,tb_set,Nat.not_lt_zero,List.nil_append,us_rep,is_rep, c0, c1, c2, c3, c4, c5, c6, c7, c8, c9, d1, d2, d3, d4, k3, k4, eq9s, natv_noHp]
    · have k2 : decide (k = m) = false := decide_eq_false h1
      rw [k2] at c8
      obtain ⟨g1, hg1⟩ : ∃ z, z = x / m := ⟨_, rfl⟩
      obtain ⟨g2, hg2⟩ : ∃ z, z = y / m := ⟨_, rfl⟩
      obtain ⟨g3, hg3⟩ : ∃ z, z = (x + y) / m := ⟨_, rfl⟩
      obtain ⟨p, hp'⟩ : ∃ p, p = x % m := ⟨_, rfl⟩
      obtain ⟨q, hq'⟩ : ∃ p, p = y % m := ⟨_, rfl⟩
      obtain ⟨r, hr⟩ : ∃ z, z = (x + y) % m := ⟨_, rfl⟩
      rw [← hg1, ← hp'] at d1
      rw [← hg2, ← hq'] at d2
      rw [← hg3, ← hr] at d3
      simp only [EE,Nat.le_refl,Nat.reduceLeDiff,List.drop_zero,us_take,us_drop,is_take,is_drop,List.take_zero,gn,if_true,if_false,Nat.reduceEqDiff,Int.reduceEq,reduceCtorEq,Nat.succ_ne_self,Nat.reduceAdd,Nat.zero_add,Nat.add_zero,Nat.reduceMul,Nat.mul_one,Nat.one_mul,Nat.zero_mul,Nat.sub_zero,decide_true,decide_false,Bool.and_self,Bool.and_true,Bool.true_and,Bool.false_and,Bool.and_false,Bool.not_true,Bool.not_false,List.length_cons,List.length_nil,us_len,is_len,tb_len,dl_len,us_set,is_set,tb_set,Nat.not_lt_zero,List.nil_append,us_rep,is_rep, c0, c1, c2, c3, c4, c5, c6, c7, c8, d1, d2, d3, k3, k4, natv_noHp]

theorem law_DivideExponents {a m i j : Nat} (ha : a < M) (hm : m < M) (hi : i < 2 ^ 64) (hj : j < 2 ^ 64) : Run T f_curvetlaw4_DivideExponents [natv a, natv m, .u 64 i, .u 64 j] [] = some (.b true, []) := by
  rw [Run_at T _ (show T f_curvetlaw4_DivideExponents = some m_curvetlaw4_DivideExponents from rfl)]
  simp only [c_curvetlaw4_DivideExponents, zero9]
  have c0 := r_awake
  have two : decide ((2 : Nat) = 0) = false := rfl
  obtain ⟨x, hx⟩ : ∃ x, i / 2 = x := ⟨_, rfl⟩
  obtain ⟨y, hy⟩ : ∃ x, j / 2 = x := ⟨_, rfl⟩
  have hs : (x + y) % 2 ^ 64 = x + y := by omega
  have c1 := r_One (x := x) (by omega)
  have c2 := r_One (x := y) (by omega)
  have c3 := r_One (x := x + y) (by omega)
  have c4 := r_One (x := 1) (by omega)
  have h64 : 2 ^ 64 < M := by unfold M; exact Nat.pow_lt_pow_right (by omega) (by omega)
  have c5 := eq9 hm hM0
  have c6 := r_Num 0
  have c7 := r_Num 400
  have k3 := eqis 0
  have k4 := eqis 400
  by_cases h0 : m = 0
  · have k1 : decide (m = 0) = true := decide_eq_true h0
    rw [k1] at c5
    subst h0
    have d1 : ∀ b, Run T f_divide_PowMod [natv a, natv b, natv 0] [] = _ := fun b => r_PowMod_no (a := a) (b := b)
    simp only [EE,Nat.le_refl,Nat.reduceLeDiff,List.drop_zero,us_take,us_drop,is_take,is_drop,List.take_zero,gn,if_true,if_false,Nat.reduceEqDiff,Int.reduceEq,reduceCtorEq,Nat.succ_ne_self,Nat.reduceAdd,Nat.zero_add,Nat.add_zero,Nat.reduceMul,Nat.mul_one,Nat.one_mul,Nat.zero_mul,Nat.sub_zero,decide_true,decide_false,Bool.and_self,Bool.and_true,Bool.true_and,Bool.false_and,Bool.and_false,Bool.not_true,Bool.not_false,List.length_cons,List.length_nil,us_len,is_len,tb_len,dl_len,us_set,is_set,tb_set,Nat.not_lt_zero,List.nil_append,us_rep,is_rep, c0, c1, c2, c3, c5, c6, c7, d1, k3, k4, two, hx, hy, hs, natv_noHp]
  · have k1 : decide (m = 0) = false := decide_eq_false h0
    rw [k1] at c5
    have d1 := r_PowMod (e := x) ha (by omega) hm h0
    have d2 := r_PowMod (e := y) ha (by omega) hm h0
    have d3 := r_PowMod (e := x + y) ha (by omega) hm h0
    have d4 := r_MulMod (a := a ^ x % m) (b := a ^ y % m) (mod_M hm h0) (mod_M hm h0) hm h0
    have e1 : a ^ x % m * (a ^ y % m) % m = a ^ (x + y) % m := by rw [← Nat.mul_mod, ← Nat.pow_add]
    rw [e1] at d4
    have d5 := r_PowMod (e := 0) ha hM0 hm h0
    rw [Nat.pow_zero] at d5
    have d6 := r_Div hM1 hm h0
    obtain ⟨p, hp⟩ : ∃ p, p = a ^ x % m := ⟨_, rfl⟩
    obtain ⟨q, hq⟩ : ∃ p, p = a ^ y % m := ⟨_, rfl⟩
    obtain ⟨r, hr⟩ : ∃ p, p = a ^ (x + y) % m := ⟨_, rfl⟩
    obtain ⟨z, hz⟩ : ∃ p, p = 1 % m := ⟨_, rfl⟩
    obtain ⟨g, hg⟩ : ∃ p, p = 1 / m := ⟨_, rfl⟩
    rw [← hp] at d1 d4
    rw [← hq] at d2 d4
    rw [← hr] at d3 d4
    rw [← hz] at d5 d6
    rw [← hg] at d6
    simp only [EE,Nat.le_refl,Nat.reduceLeDiff,List.drop_zero,us_take,us_drop,is_take,is_drop,List.take_zero,gn,if_true,if_false,Nat.reduceEqDiff,Int.reduceEq,reduceCtorEq,Nat.succ_ne_self,Nat.reduceAdd,Nat.zero_add,Nat.add_zero,Nat.reduceMul,Nat.mul_one,Nat.one_mul,Nat.zero_mul,Nat.sub_zero,decide_true,decide_false,Bool.and_self,Bool.and_true,Bool.true_and,Bool.false_and,Bool.and_false,Bool.not_true,Bool.not_false,List.length_cons,List.length_nil,us_len,is_len,tb_len,dl_len,us_set,is_set,tb_set,Nat.not_lt_zero,List.nil_append,us_rep,is_rep, c0, c1, c2, c3, c4, c5, c6, c7, d1, d2, d3, d4, d5, d6, k3, k4, two, hx, hy, hs, eq9s, natv_noHp]

end Mir
