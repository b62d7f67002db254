/- The law TopEncoded as the small language runs it: true of all arguments. Conditions: none. -/
import Derived.Test.YtmfbmdbabebhmaaAllG
set_option linter.unusedVariables false
set_option linter.unusedSectionVars false
set_option linter.unusedSimpArgs false
set_option exponentiation.threshold 5000
set_option maxRecDepth 20000
namespace Mir

theorem law_TopEncoded {z : Int} {u v : Nat} (_ : -9223372036854775808 ≤ z) (_ : z < 9223372036854775808) (_ : u < 2 ^ 64) (_ : v < 2 ^ 64) (sh : Bool) :
    Run T f_curvettop_TopEncoded [.i z, .u 64 u, .u 64 v, .b sh] [] = some (.b true, []) := by
  rw [Run_at T _ (show T f_curvettop_TopEncoded = some m_curvettop_TopEncoded from rfl)]
  simp only [c_curvettop_TopEncoded, zeroCv, zeroPt, zero9]
  have c0 := r_topAwake
  have n0 := r_Num 0
  have hk := kOf_cid z
  have cv := cv_ok hk
  have lt := cv.lt
  have kz := kOf_w z
  generalize kOf z = k at *
  have hN := crN_big hk
  haveI := pos_k hk
  have c1 := r_cGet hk
  obtain ⟨x, hx⟩ : ∃ x, x = 1 + u % 100 := ⟨_, rfl⟩
  obtain ⟨y, hy⟩ : ∃ x, x = 1 + v % 100 := ⟨_, rfl⟩
  have x1 : F ((1 + u % 100) % 2 ^ 64) x := ⟨by omega⟩
  have y1 : F ((1 + v % 100) % 2 ^ 64) y := ⟨by omega⟩
  have t1 : F (((2 + u % 100) % 2 ^ 64 + v % 100) % 2 ^ 64) (x + y) := ⟨by omega⟩
  have o1 := r_One (x := x) (by omega)
  have o2 := r_One (x := y) (by omega)
  have o3 := r_One (x := x + y) (by omega)
  have g0 : decide ((100 : Nat) = 0) = false := rfl
  have gc : x + y < 200 + 1 := by omega
  have tM : x + y < M := by unfold M; exact Nat.lt_trans gc (Nat.lt_of_lt_of_le (by omega : 201 < 2 ^ 9) (Nat.pow_le_pow_right (by omega) (by omega)))
  have b1 := n_baseMul hk (d := x) (by omega)
  have b2 := n_baseMul hk (d := y) (by omega)
  have fx : (gq k x).i = false := gq_ne hk (by omega) (small_gcd hk (by omega) (by omega))
  have fy : (gq k y).i = false := gq_ne hk (by omega) (small_gcd hk (by omega) (by omega))
  have p1 := r_Put (short := sh) hk (gq_on hk x) fx
  have p2 := r_Put (short := !sh) hk (gq_on hk y) fy
  have s1 := r_sGet (short := sh) hk (gq_on hk x) fx (gq_y hk x fx)
  have s2 := r_sGet (short := !sh) hk (gq_on hk y) fy (gq_y hk y fy)
  have a1 := n_affAdd hk fx fy
  have a2 := n_affMul hk (x := x + y) (m := 1) tM
  rw [Nat.mul_one, gq_1 hk] at a2
  have lx := (gq_on hk (x + y)).x
  have ly := (gq_on hk (x + y)).y
  have e9 := eq19 (x := (gq k (x + y)).x) (y := (gq k (x + y)).y) (u := (gq k (x + y)).x) (v := (gq k (x + y)).y) (b := (gq k (x + y)).i) (c := (gq k (x + y)).i) (by omega) (by omega) (by omega) (by omega)
  rw [decide_eq_true rfl, decide_eq_true rfl, beq_self_eq_true] at e9
  have nc := cvh_np8 k
  have np := fun a b c => pt_np a b c 6
  have ns : ∀ s, noHp 8 (.s s) = true := fun _ => rfl
  have nb : ∀ s, noHp 8 (.b s) = true := fun _ => rfl
  have d0 : decide ((0 : Int) = 0) = true := rfl
  generalize enc k (gq k x) sh = en1 at *
  generalize enc k (gq k y) (!sh) = en2 at *
  generalize gq k (x + y) = Q3 at *
  generalize gq k x = Q1 at *
  generalize gq k y = Q2 at *
  generalize x + y = xy at *
  clear lx ly cv lt hN fx fy
  simp only [pt, crG] at *
  simp only [cvh, cvhL] at *
  simp only [EE,EX,Nat.reduceLeDiff,Nat.reduceEqDiff,Int.reduceEq,reduceCtorEq,Nat.reduceAdd,Nat.reduceMul,if_true,if_false,decide_true,decide_false, kz.eq, c0, c1, n0, x1.eq, y1.eq, t1.eq, o1, o2, o3, g0, b1, b2, p1, p2, s1, s2, a1, a2, e9, nc, np, ns, nb, d0, natv_noHp, ch_ok, ch_len, ch_sa, ch_p, ch_i, ch_g, ch_size, pt_len, pt_ok, pt_sa, pt_a, pt_x, pt_b, Bool.not_true, Bool.not_false]

end Mir
