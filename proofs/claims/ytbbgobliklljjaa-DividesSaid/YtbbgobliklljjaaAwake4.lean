/- Chapter 4: what every program answers that is one. Conditions: none. -/
import Derived.Test.YtbbgobliklljjaaAllD
import Derived.Test.YtbbgobliklljjaaAllN
import Derived.KernelRfl
set_option linter.unusedVariables false
set_option linter.unusedSimpArgs false
set_option exponentiation.threshold 5000
set_option maxRecDepth 20000
namespace Mir
theorem r_inv37 : Run T f_divide_Inverse [natv 3, natv 7] [] = some (.tup [natv 5, .i 0], []) := (Run_some T).2 ⟨30, by kernel_rfl⟩
theorem r_inv39 : Run T f_divide_Inverse [natv 3, natv 9] [] = some (.tup [natv 0, .i 401], []) := (Run_some T).2 ⟨30, by kernel_rfl⟩
theorem r_awake : Run T f_curvetlaw4_awake [] [] = some (.b true, []) := by
  rw [Run_at T _ (show T f_curvetlaw4_awake = some m_curvetlaw4_awake from rfl)]
  simp only [c_curvetlaw4_awake, zero9]
  have o1 : ∀ x, x < 2 ^ 64 → Run T f_curvetlaw0_One [.u 64 x] [] = some (natv x, []) := fun x hx => r_One hx
  have o17 := o1 17 (by omega)
  have o5 := o1 5 (by omega)
  have o3 := o1 3 (by omega)
  have o7 := o1 7 (by omega)
  have o9 := o1 9 (by omega)
  have o4 := o1 4 (by omega)
  have o2 := o1 2 (by omega)
  have o0 := o1 0 (by omega)
  have h64 : 2 ^ 64 < M := by unfold M; exact Nat.pow_lt_pow_right (by omega) (by omega)
  have d1 : Run T f_divide_Div [natv 17, natv 5] [] = some (.tup [natv 3, natv 2, .i 0], []) := r_Div (a := 17) (m := 5) (by omega) (by omega) (by omega)
  have d2 := r_Div_no (a := 17) (by omega)
  have d3 : Run T f_divide_PowMod [natv 3, natv 4, natv 7] [] = some (.tup [natv 4, .i 0], []) := r_PowMod (a := 3) (e := 4) (m := 7) (by omega) (by omega) (by omega) (by omega)
  have d4 := r_inv37
  have d5 := r_inv39
  have c6 := r_Num 0
  have c7 := r_Num 400
  have c8 := r_Num 401
  have k3 := eqis 0
  have k4 := eqis 400
  have k5 := eqis 401
  clear o1
  simp only [EE,Nat.le_refl,Nat.reduceLeDiff,List.drop_zero,us_take,us_drop,is_take,is_drop,List.take_zero,gn,if_true,if_false,Nat.reduceEqDiff,Int.reduceEq,reduceCtorEq,Nat.succ_ne_self,Nat.reduceAdd,Nat.zero_add,Nat.add_zero,Nat.reduceMul,Nat.mul_one,Nat.one_mul,Nat.zero_mul,Nat.sub_zero,decide_true,decide_false,Bool.and_self,Bool.and_true,Bool.true_and,Bool.false_and,Bool.and_false,Bool.not_true,Bool.not_false,List.length_cons,List.length_nil,us_len,is_len,tb_len,dl_len,us_set,is_set,tb_set,Nat.not_lt_zero,List.nil_append,us_rep,is_rep, o17, o5, o3, o7, o9, o4, o2, o0, d1, d2, d3, d4, d5, c6, c7, c8, k3, k4, k5, eq9s, natv_noHp]
end Mir
