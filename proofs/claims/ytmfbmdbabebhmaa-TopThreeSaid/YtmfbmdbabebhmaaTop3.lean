/- The law TopThree as the small language runs it: true of all arguments. Conditions: none. -/
import Derived.Test.YtmfbmdbabebhmaaAllG
set_option linter.unusedVariables false
set_option linter.unusedSectionVars false
set_option linter.unusedSimpArgs false
set_option exponentiation.threshold 5000
set_option maxRecDepth 20000
namespace Mir

theorem law_TopThree {z : Int} {u v w : Nat} (_ : -9223372036854775808 ≤ z) (_ : z < 9223372036854775808) (_ : u < 2 ^ 64) (_ : v < 2 ^ 64) (_ : w < 2 ^ 64) :
    Run T f_curvettop_TopThree [.i z, .u 64 u, .u 64 v, .u 64 w] [] = some (.b true, []) := by
  rw [Run_at T _ (show T f_curvettop_TopThree = some m_curvettop_TopThree from rfl)]
  simp only [c_curvettop_TopThree, zeroCv, zeroPt, zero9]
  have c0 := r_topAwake
  have n0 := r_Num 0
  have hk := kOf_cid z
  have cv := cv_ok hk
  have lt := cv.lt
  have kz := kOf_w z
  generalize kOf z = k at *
  have hN := crN_big hk
  haveI := pos_k hk
  have c1 := r_cGet hk
  obtain ⟨x, hx⟩ : ∃ x, x = 1 + u % 200 := ⟨_, rfl⟩
  obtain ⟨y, hy⟩ : ∃ x, x = 1 + v % 200 := ⟨_, rfl⟩
  obtain ⟨t, ht⟩ : ∃ x, x = 1 + w % 200 := ⟨_, rfl⟩
  have x1 : F ((1 + u % 200) % 2 ^ 64) x := ⟨by omega⟩
  have y1 : F ((1 + v % 200) % 2 ^ 64) y := ⟨by omega⟩
  have t1 : F ((1 + w % 200) % 2 ^ 64) t := ⟨by omega⟩
  have o1 := r_One (x := x) (by omega)
  have o2 := r_One (x := y) (by omega)
  have o3 := r_One (x := t) (by omega)
  have g0 : decide ((200 : Nat) = 0) = false := rfl
  have ga : x < 200 + 1 := by omega
  have gb : y < 200 + 1 := by omega
  have gc : t < 200 + 1 := by omega
  have xM : x < M := by unfold M; exact Nat.lt_trans ga (Nat.lt_of_lt_of_le (by omega : 201 < 2 ^ 9) (Nat.pow_le_pow_right (by omega) (by omega)))
  have yM : y < M := by unfold M; exact Nat.lt_trans gb (Nat.lt_of_lt_of_le (by omega : 201 < 2 ^ 9) (Nat.pow_le_pow_right (by omega) (by omega)))
  have tM : t < M := by unfold M; exact Nat.lt_trans gc (Nat.lt_of_lt_of_le (by omega : 201 < 2 ^ 9) (Nat.pow_le_pow_right (by omega) (by omega)))
  have b1 := n_baseMul hk (d := x) (by omega)
  have b2 := n_affMul hk (x := y) (m := x) yM
  have b3 := n_affMul hk (x := t) (m := y * x) tM
  have b4 := n_baseMul hk (d := t) (by omega)
  have b5 := n_affMul hk (x := x) (m := t) xM
  have b6 := n_affMul hk (x := y) (m := x * t) yM
  have e6 : y * (x * t) = t * (y * x) := by simp only [Nat.mul_comm, Nat.mul_left_comm]
  rw [e6] at b6
  have fi : (gq k (y * x)).i = false := gq_ne hk (by omega) (Nat.Coprime.mul_right (small_gcd hk (by omega) (by omega)) (small_gcd hk (by omega) (by omega)))
  have p1 := r_Put (short := true) hk (gq_on hk (y * x)) fi
  have s1 := n_Shared hk (short := true) (d := t) (m := y * x) (by omega) (by omega) fi
  have lx := gq_x hk (t * (y * x))
  have q1 := r_natBytes (x := (gq k (t * (y * x))).x) (n := crSize k) (by omega) (crSize_le hk) (crSize_bl lx)
  have ly := (gq_on hk (t * (y * x))).y
  have e9 := eq19 (x := (gq k (t * (y * x))).x) (y := (gq k (t * (y * x))).y) (u := (gq k (t * (y * x))).x) (v := (gq k (t * (y * x))).y) (b := (gq k (t * (y * x))).i) (c := (gq k (t * (y * x))).i) (by omega) (by omega) (by omega) (by omega)
  rw [decide_eq_true rfl, decide_eq_true rfl, beq_self_eq_true] at e9
  have nc := cvh_np8 k
  have np := fun a b c => pt_np a b c 6
  have ns : ∀ s, noHp 8 (.s s) = true := fun _ => rfl
  have nb : ∀ s, noHp 8 (.b s) = true := fun _ => rfl
  have d0 : decide ((0 : Int) = 0) = true := rfl
  have eb : ∀ l : List Nat, (l == l) = true := fun l => beq_self_eq_true l
  generalize hB : enc k (gq k (y * x)) true = en at *
  generalize bs (crSize k) (gq k (t * (y * x))).x = by1 at *
  generalize gq k (t * (y * x)) = Q3 at *
  generalize gq k (y * x) = Q2 at *
  generalize gq k (x * t) = Q4 at *
  generalize gq k x = Q1 at *
  generalize gq k t = Q5 at *
  obtain ⟨Q2x, Q2y, Q2i⟩ := Q2
  simp only at fi
  subst fi
  clear lx ly cv lt hN
  simp only [pt] at *
  simp only [cvh, cvhL] at *
  simp only [EE,EX,Nat.reduceLeDiff,Nat.reduceEqDiff,Int.reduceEq,reduceCtorEq,Nat.reduceAdd,Nat.reduceMul,if_true,if_false,decide_true,decide_false, kz.eq, c0, c1, n0, x1.eq, y1.eq, t1.eq, o1, o2, o3, g0, b1, b2, b3, b4, b5, b6, p1, s1, q1, e9, nc, np, ns, nb, d0, eb, Jh, natv_noHp, ch_ok, ch_len, ch_sa, ch_p, ch_i, ch_size, pt_len, pt_ok, pt_sa, pt_a, pt_x, pt_b, Bool.not_true, Bool.not_false]

end Mir
