/- Chapter 4, laws with the document's answer as the small language runs them. Conditions: none. -/
import Derived.Test.YtbbgobliklljjaaAllE
import Derived.Test.YtbbgobliklljjaaDiv1
set_option linter.unusedVariables false
set_option linter.unusedSimpArgs false
set_option exponentiation.threshold 5000
set_option maxRecDepth 20000
namespace Mir

theorem len_M {x : Nat} (h : x < M) : (dg x).length ≤ 18 := dg_len_le 18 x (M32 ▸ h)
theorem len_MM {x : Nat} (h : x < M * M) : (dg x).length ≤ 36 := dg_len_le 36 x (MM36 ▸ h)

theorem law_Divides {a b m w : Nat} (ha : a < M) (hb : b < M) (hm : m < M) (hw : w < M * M) : Run T f_curvetlaw4_Divides [natv a, natv b, natv m, widev w] [] = some (.b true, []) := by
  rw [Run_at T _ (show T f_curvetlaw4_Divides = some m_curvetlaw4_Divides from rfl)]
  simp only [c_curvetlaw4_Divides, zero9]
  have c0 := r_awake
  have c1 := r_From hm
  have c2 := r_Num 0
  have c3 := r_Num 400
  have k0 := eqis 0
  have k4 := eqis 400
  have n1 := fun x => num_noHp x 6
  by_cases h0 : m = 0
  · subst h0
    have d1 := r_Div_no ha
    have d2 := r_Mod_no (W := w)
    have d3 := r_MulMod_no (a := a) (b := b)
    have e1 : decide (((dg 0).length : Int) = 0) = true := rfl
    have e2 : decide ((dg 0).length < 9223372036854775808) = true := rfl
    simp only [EE,Nat.le_refl,Nat.reduceLeDiff,List.drop_zero,us_take,us_drop,is_take,is_drop,List.take_zero,gn,if_true,if_false,Nat.reduceEqDiff,Int.reduceEq,reduceCtorEq,Nat.succ_ne_self,Nat.reduceAdd,Nat.zero_add,Nat.add_zero,Nat.reduceMul,Nat.mul_one,Nat.one_mul,Nat.zero_mul,Nat.sub_zero,decide_true,decide_false,Bool.and_self,Bool.and_true,Bool.true_and,Bool.false_and,Bool.and_false,Bool.not_true,Bool.not_false,List.length_cons,List.length_nil,us_len,is_len,tb_len,dl_len,us_set,is_set,tb_set,Nat.not_lt_zero,List.nil_append,us_rep,is_rep, c0, c1, c2, c3, d1, d2, d3, e1, e2, k0, k4, eq9s, natv_noHp, n1]
  · have d1 := r_Div ha hm h0
    have d2 := r_Mod hw hm h0
    have d3 := r_MulMod ha hb hm h0
    have la := len_M ha
    have lb := len_M hb
    have lm := len_M hm
    have lw := len_MM hw
    have hl : 0 < (dg m).length := by rw [dg_pos h0]; simp
    have e1 : decide (((dg m).length : Int) = 0) = false := decide_eq_false (by omega)
    have e2 : decide ((dg m).length < 9223372036854775808) = true := decide_eq_true (by omega)
    have f1 := r_From ha
    have f2 := r_From hb
    have f3 := r_refOf hw
    have f4 := r_refDiv (a := a) (m := m) (by omega) (by omega) h0
    have f5 := r_refMod (a := w) (m := m) (by omega) (by omega) h0
    have f6 := r_refMul (x := a) (y := b) (by unfold Fit; omega) (by unfold Fit; omega)
    have lab := len_mul la lb
    have f7 := r_refMod (a := a * b) (m := m) (by omega) (by omega) h0
    have fm : ∀ x, x ≤ M → Fit x := fun x hx => Fit.of_lt (n := 19) (Nat.lt_of_le_of_lt hx (by unfold M; exact Nat.pow_lt_pow_right (by omega) (by omega))) (by omega)
    have hmod : ∀ x, x % m < M := fun x => mod_M hm h0
    have hdm : a / m < M := Nat.lt_of_le_of_lt (Nat.div_le_self _ _) ha
    have g1 := r_Nat (fm (a / m) (Nat.le_of_lt hdm))
    have g2 := r_Nat (fm (a % m) (Nat.le_of_lt (hmod _)))
    have g3 := r_Nat (fm (w % m) (Nat.le_of_lt (hmod _)))
    have g4 := r_Nat (fm (a * b % m) (Nat.le_of_lt (hmod _)))
    obtain ⟨x1, hx1⟩ : ∃ z, z = a / m := ⟨_, rfl⟩
    obtain ⟨x2, hx2⟩ : ∃ z, z = a % m := ⟨_, rfl⟩
    obtain ⟨x3, hx3⟩ : ∃ z, z = w % m := ⟨_, rfl⟩
    obtain ⟨x4, hx4⟩ : ∃ z, z = a * b % m := ⟨_, rfl⟩
    obtain ⟨ab, hab⟩ : ∃ z, z = a * b := ⟨_, rfl⟩
    rw [← hx1, ← hx2] at d1 f4
    rw [← hx3] at d2 f5 g3
    rw [← hx4] at d3 f7 g4
    rw [← hx1] at g1
    rw [← hx2] at g2
    rw [← hab] at f6 f7
    simp only [EE,Nat.le_refl,Nat.reduceLeDiff,List.drop_zero,us_take,us_drop,is_take,is_drop,List.take_zero,gn,if_true,if_false,Nat.reduceEqDiff,Int.reduceEq,reduceCtorEq,Nat.succ_ne_self,Nat.reduceAdd,Nat.zero_add,Nat.add_zero,Nat.reduceMul,Nat.mul_one,Nat.one_mul,Nat.zero_mul,Nat.sub_zero,decide_true,decide_false,Bool.and_self,Bool.and_true,Bool.true_and,Bool.false_and,Bool.and_false,Bool.not_true,Bool.not_false,List.length_cons,List.length_nil,us_len,is_len,tb_len,dl_len,us_set,is_set,tb_set,Nat.not_lt_zero,List.nil_append,us_rep,is_rep, c0, c1, c2, c3, d1, d2, d3, e1, e2, k0, k4, eq9s, natv_noHp, n1, f1, f2, f3, f4, f5, f6, f7, g1, g2, g3, g4]

theorem law_DividePowers {a e m : Nat} (ha : a < M) (he : e < M) (hm : m < M) : Run T f_curvetlaw4_DividePowers [natv a, natv e, natv m] [] = some (.b true, []) := by
  rw [Run_at T _ (show T f_curvetlaw4_DividePowers = some m_curvetlaw4_DividePowers from rfl)]
  simp only [c_curvetlaw4_DividePowers, zero9]
  have c0 := r_awake
  have c1 := r_From hm
  have c2 := r_Num 0
  have c3 := r_Num 400
  have c4 := r_Num 401
  have k0 := eqis 0
  have k4 := eqis 400
  have k5 := eqis 401
  have n1 := fun x => num_noHp x 6
  by_cases h0 : m = 0
  · subst h0
    have d1 := r_PowMod_no (a := a) (b := e)
    have d2 := r_Inverse_zero (a := a)
    have e1 : decide (((dg 0).length : Int) = 0) = true := rfl
    have e2 : decide ((dg 0).length < 9223372036854775808) = true := rfl
    simp only [EE,Nat.le_refl,Nat.reduceLeDiff,List.drop_zero,us_take,us_drop,is_take,is_drop,List.take_zero,gn,if_true,if_false,Nat.reduceEqDiff,Int.reduceEq,reduceCtorEq,Nat.succ_ne_self,Nat.reduceAdd,Nat.zero_add,Nat.add_zero,Nat.reduceMul,Nat.mul_one,Nat.one_mul,Nat.zero_mul,Nat.sub_zero,decide_true,decide_false,Bool.and_self,Bool.and_true,Bool.true_and,Bool.false_and,Bool.and_false,Bool.not_true,Bool.not_false,List.length_cons,List.length_nil,us_len,is_len,tb_len,dl_len,us_set,is_set,tb_set,Nat.not_lt_zero,List.nil_append,us_rep,is_rep, c0, c1, c2, c3, d1, d2, e1, e2, k0, k4, eq9s, natv_noHp, n1]
  · have la := len_M ha
    have le := len_M he
    have lm := len_M hm
    have hl : 0 < (dg m).length := by rw [dg_pos h0]; simp
    have e1 : decide (((dg m).length : Int) = 0) = false := decide_eq_false (by omega)
    have e2 : decide ((dg m).length < 9223372036854775808) = true := decide_eq_true (by omega)
    have f1 := r_From ha
    have f2 := r_From he
    have d1 := r_PowMod ha he hm h0
    have f3 := r_refPowMod (a := a) (e := e) (m := m) (by omega) (by omega) (by omega) h0
    have fm : ∀ x, x ≤ M → Fit x := fun x hx => Fit.of_lt (n := 19) (Nat.lt_of_le_of_lt hx (by unfold M; exact Nat.pow_lt_pow_right (by omega) (by omega))) (by omega)
    have hmod : ∀ x, x % m < M := fun x => mod_M hm h0
    have g1 := r_Nat (fm (a ^ e % m) (Nat.le_of_lt (hmod _)))
    obtain ⟨x1, hx1⟩ : ∃ z, z = a ^ e % m := ⟨_, rfl⟩
    rw [← hx1] at d1 f3 g1
    by_cases hg : m ≠ 1 ∧ Nat.gcd m a = 1
    · obtain ⟨i, hi1, hi2, d2⟩ := r_Inverse ha hm h0 hg.1 hg.2
      obtain ⟨j, hj1, hj2, f4⟩ := r_refInverse (a := a) (m := m) (by omega) (by omega) (by omega) hg.2
      have hij := inv_one hi1 hj1 hi2 hj2
      subst hij
      have g2 := r_Nat (fm i (by omega))
      simp only [EE,Nat.le_refl,Nat.reduceLeDiff,List.drop_zero,us_take,us_drop,is_take,is_drop,List.take_zero,gn,if_true,if_false,Nat.reduceEqDiff,Int.reduceEq,reduceCtorEq,Nat.succ_ne_self,Nat.reduceAdd,Nat.zero_add,Nat.add_zero,Nat.reduceMul,Nat.mul_one,Nat.one_mul,Nat.zero_mul,Nat.sub_zero,decide_true,decide_false,Bool.and_self,Bool.and_true,Bool.true_and,Bool.false_and,Bool.and_false,Bool.not_true,Bool.not_false,List.length_cons,List.length_nil,us_len,is_len,tb_len,dl_len,us_set,is_set,tb_set,Nat.not_lt_zero,List.nil_append,us_rep,is_rep, c0, c1, c2, c3, d1, d2, e1, e2, k0, k4, eq9s, natv_noHp, n1, f1, f2, f3, f4, g1, g2, Bool.not_true, Bool.not_false]
    · have d2 := r_Inverse_none ha hm h0 (by by_cases h : m = 1; exact .inl h; exact .inr fun h2 => hg ⟨h, h2⟩)
      have f4 := r_refInverse_none (a := a) (m := m) (by omega) (by omega) (by by_cases h : m = 1; exact .inl (by omega); exact .inr fun h2 => hg ⟨h, h2⟩)
      simp only [EE,Nat.le_refl,Nat.reduceLeDiff,List.drop_zero,us_take,us_drop,is_take,is_drop,List.take_zero,gn,if_true,if_false,Nat.reduceEqDiff,Int.reduceEq,reduceCtorEq,Nat.succ_ne_self,Nat.reduceAdd,Nat.zero_add,Nat.add_zero,Nat.reduceMul,Nat.mul_one,Nat.one_mul,Nat.zero_mul,Nat.sub_zero,decide_true,decide_false,Bool.and_self,Bool.and_true,Bool.true_and,Bool.false_and,Bool.and_false,Bool.not_true,Bool.not_false,List.length_cons,List.length_nil,us_len,is_len,tb_len,dl_len,us_set,is_set,tb_set,Nat.not_lt_zero,List.nil_append,us_rep,is_rep, c0, c1, c2, c3, c4, d1, d2, e1, e2, k0, k4, k5, eq9s, natv_noHp, n1, f1, f2, f3, f4, g1, Bool.not_true, Bool.not_false]

end Mir
