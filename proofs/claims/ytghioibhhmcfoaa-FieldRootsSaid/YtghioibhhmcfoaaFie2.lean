/- Chapter 5, laws as the small language runs them: roots, sums, bounds. Conditions: none. -/
import Derived.Test.YtghioibhhmcfoaaFieJ
set_option linter.unusedVariables false
set_option linter.unusedSectionVars false
set_option linter.unusedSimpArgs false
set_option exponentiation.threshold 5000
set_option maxRecDepth 20000
set_option maxHeartbeats 1000000
namespace Mir

theorem and1 (y : Nat) (h : y % 2 = 0) : (y % 2 ^ 64 &&& 1) = 0 := by
  rw [Nat.and_one_is_mod]; omega
theorem sub0 {p y : Nat} (hy : y < p) (h0 : y ≠ 0) : (0 + p - y) % p = p - y := by
  rw [Nat.zero_add, Nat.mod_eq_of_lt (by omega)]
theorem law_FieldSquares {z : Int} {a : Nat} (_ : -9223372036854775808 ≤ z) (_ : z < 9223372036854775808) (ha : a < M) : Run T f_curvetlaw5_FieldSquares [.i z, natv a] [] = some (.b true, []) := by
  rw [Run_at T _ (show T f_curvetlaw5_FieldSquares = some m_curvetlaw5_FieldSquares from rfl)]
  simp only [c_curvetlaw5_FieldSquares, zero9]
  have c0 := r_awake
  have hM := Mpos
  have c2 := r_Num 0
  have c3 := r_Num 502
  have k0 := eqis 0
  have k3 := eqis 502
  have hk := kOf_cid z
  have cv := cv_ok hk
  have lt := cv.lt
  have big := cv.big
  have pr := cv.pr
  have odd := cv.odd
  have g1 := r_Get hk
  have kz := kOf_w z
  have n0 := curvev_noHp hk
  have n1 := fun x => num_noHp x 6
  generalize kOf z = k at *
  have pos : 0 < crP k := by omega
  have b1 := r_below hk ha
  have x1 : a % crP k < crP k := Nat.mod_lt _ pos
  generalize a % crP k = x at *
  have q := r_fMul hk x1 x1
  have z1 := eq9 (x := x) (y := 0) (by omega) (by omega)
  by_cases h1 : x = 0
  · subst h1
    rw [Nat.zero_mul, Nat.zero_mod] at q
    have s1 := r_fSqrt_zero hk
    have s2 := r_fSub hk (a := 0) (b := 0) pos pos
    rw [Nat.zero_add, Nat.sub_zero, Nat.mod_self] at s2
    have s3 := r_fInv_zero hk
    clear cv
    simp only [curvev] at *
    simp only [EE,EX,Nat.reduceLeDiff,Nat.reduceEqDiff,Int.reduceEq,reduceCtorEq,Nat.reduceAdd,Nat.reduceMul,if_true,if_false,decide_true,decide_false, c0, c2, c3, k0, k3, kz.eq, g1, b1, q, s1, s2, s3, n0, n1, natv_noHp, p7_0, p7_1, p7, sp7, okc7, okc7n, okc7z, eq9s, Bool.not_true, Bool.not_false]
  · rw [decide_eq_false h1] at z1
    have x3 : x * x % crP k < crP k := Nat.mod_lt _ pos
    have h3 := pr.mul_ne x1 x1 h1 h1
    obtain ⟨y, y1, y2, y3, s1⟩ := r_fSqrt_ok hk x3 h3 (pr.euler_sq odd h1 x1)
    have y0 : y ≠ 0 := by intro h; rw [h, Nat.zero_mul, Nat.zero_mod] at y3; exact h3 y3.symm
    have s2 := r_fSub hk (a := 0) (b := y) pos y1
    rw [sub0 y1 y0] at s2
    obtain ⟨i, i1, i2, i3, s3⟩ := inv_ex hk x1 h1
    have s4 := r_fMul hk x1 i1
    rw [Nat.mul_comm, i3] at s4
    have i9 : ixOf 9 (.i 0) = some 0 := rfl
    have p0 := dl_partL (L := 9) (x := y) (show 0 < 9 by omega)
    rw [Nat.mul_zero, Nat.pow_zero, Nat.div_one] at p0
    have o1 := r_One (x := 1) (by omega)
    have w1 := and1 y y2
    have w2 : decide (0 = 0) = true := rfl
    generalize y % 2 ^ 64 = yw at *
    rcases pr.same_square y1 x1 y3 with h5 | h5 | h5
    · rw [h5] at s1 s2 p0
      clear cv y3 i3
      generalize x * x % crP k = v at *
      simp only [curvev] at *
      generalize crP k - y = t at *
      simp only [EE,EX,Nat.reduceLeDiff,Nat.reduceEqDiff,Int.reduceEq,reduceCtorEq,Nat.reduceAdd,Nat.reduceMul,if_true,if_false,decide_true,decide_false, c0, c2, c3, k0, k3, kz.eq, g1, b1, q, z1, s1, s2, s3, s4, i9, p0, o1, w1, w2, n0, n1, natv_noHp, p7_0, p7_1, p7, sp7, okc7, okc7n, okc7z, eq9s, Bool.not_true, Bool.not_false]
    · have e5 : crP k - y = x := by omega
      rw [e5] at s2
      have z2 := eq9 (x := y) (y := x) (by omega) (by omega)
      rw [decide_eq_false (by omega)] at z2
      clear cv y3 i3 e5
      generalize x * x % crP k = v at *
      simp only [curvev] at *
      simp only [EE,EX,Nat.reduceLeDiff,Nat.reduceEqDiff,Int.reduceEq,reduceCtorEq,Nat.reduceAdd,Nat.reduceMul,if_true,if_false,decide_true,decide_false, c0, c2, c3, k0, k3, kz.eq, g1, b1, q, z1, z2, s1, s2, s3, s4, i9, p0, o1, w1, w2, n0, n1, natv_noHp, p7_0, p7_1, p7, sp7, okc7, okc7n, okc7z, eq9s, Bool.not_true, Bool.not_false]
    · exact absurd h5.1 y0

theorem id_cases {z : Int} : (z < 1 ∨ 15 < z) ∨ ∃ k : Nat, z = (k : Int) ∧ Cid k := by
  by_cases h : z < 1 ∨ 15 < z
  · exact .inl h
  · exact .inr ⟨z.toNat, by omega, cid_of (by omega) (by omega)⟩
theorem cmp_ge {a p : Nat} : decide (0 ≤ cmpI a p) = decide (p ≤ a) := by
  unfold cmpI
  by_cases h : a < p
  · rw [if_pos h, decide_eq_false (show ¬ p ≤ a by omega)]; rfl
  · rw [if_neg h, decide_eq_true (show p ≤ a by omega)]
    split <;> rfl
theorem sub_form {a b p : Nat} (ha : a < p) (hb : b < p) : (if b ≤ a then a - b else a + p - b) = (a + p - b) % p := by
  by_cases h : b ≤ a
  · rw [if_pos h, show a + p - b = a - b + p by omega, Nat.add_mod_right, Nat.mod_eq_of_lt (by omega)]
  · rw [if_neg h, Nat.mod_eq_of_lt (by omega)]

theorem law_Fields {z : Int} {a b w : Nat} (_ : -9223372036854775808 ≤ z) (_ : z < 9223372036854775808) (ha : a < M) (hb : b < M) (hw : w < M * M) : Run T f_curvetlaw5_Fields [.i z, natv a, natv b, widev w] [] = some (.b true, []) := by
  rw [Run_at T _ (show T f_curvetlaw5_Fields = some m_curvetlaw5_Fields from rfl)]
  simp only [c_curvetlaw5_Fields, zero9]
  have c0 := r_awake
  have hM := Mpos
  have c2 := r_Num 0
  have c3 := r_Num 500
  have c4 := r_Num 501
  have k0 := eqis 0
  have k3 := eqis 500
  have k4 := eqis 501
  have n1 := fun x => num_noHp x 6
  rcases id_cases (z := z) with hz | ⟨k, rfl, hk⟩
  · have g1 := Get_none hz
    have s1 := fAdd_none (a := a) (b := b) hz
    have s2 := fSub_none (a := a) (b := b) hz
    have s3 := fMul_none (a := a) (b := b) hz
    have s4 := fReduce_none (W := w) hz
    have n0 : True := trivial
    simp only [EE,EX,Nat.reduceLeDiff,Nat.reduceEqDiff,Int.reduceEq,reduceCtorEq,Nat.reduceAdd,Nat.reduceMul,if_true,if_false,decide_true,decide_false, c0, c3, k3, g1, s1, s2, s3, s4, widev_noHp, n0, n1, natv_noHp, p7_0, p7_1, p7, sp7, okc7, okc7n, okc7z, eq9s, Bool.not_true, Bool.not_false]
  · have cv := cv_ok hk
    have lt := cv.lt
    have big := cv.big
    have g1 := r_Get hk
    have n0 := curvev_noHp hk
    have pos : 0 < crP k := by omega
    have la := lenF ha
    have lb := lenF hb
    have lp := lenF lt
    have lw : (dg w).length ≤ 36 := dg_len_le 36 w (MM36 ▸ hw)
    have s4 := r_fReduce hk hw
    have t1 := r_refOf hw
    have t2 := r_refMod (a := w) (m := crP k) (by omega) (by omega) (by omega)
    have hwm : w % crP k < crP k := Nat.mod_lt _ pos
    have t3 := r_Nat (x := w % crP k) (fitF (by omega))
    have f1 := r_From ha
    have f2 := r_From hb
    have q1 := r_refCmp (a := a) (b := crP k) (fitF (by omega)) (fitF (by omega))
    have q2 := r_refCmp (a := b) (b := crP k) (fitF (by omega)) (fitF (by omega))
    have d1 := cmp_ge (a := a) (p := crP k)
    have d2 := cmp_ge (a := b) (p := crP k)
    by_cases hab : a < crP k ∧ b < crP k
    · obtain ⟨h1, h2⟩ := hab
      rw [decide_eq_false (show ¬ crP k ≤ a by omega)] at d1
      rw [decide_eq_false (show ¬ crP k ≤ b by omega)] at d2
      have s1 := r_fAdd hk h1 h2
      have s2 := r_fSub hk h1 h2
      have s3 := r_fMul hk h1 h2
      have u1 := r_refAddMod hk lt h1 h2
      have u2 := r_refSubMod (a := a) (b := b) (m := crP k) (by omega) (by omega) (by omega) (by omega)
      rw [sub_form h1 h2] at u2
      have u3 := r_refMulMod (a := a) (b := b) (m := crP k) (by omega) (by omega) (by omega) (by omega)
      have v1 := r_Nat (x := (a + b) % crP k) (fitF (by have := Nat.mod_lt (a + b) pos; omega))
      have v2 := r_Nat (x := (a + crP k - b) % crP k) (fitF (by have := Nat.mod_lt (a + crP k - b) pos; omega))
      have v3 := r_Nat (x := a * b % crP k) (fitF (by have := Nat.mod_lt (a * b) pos; omega))
      clear cv
      simp only [curvev] at *
      generalize (a + b) % crP k = w1 at *
      generalize (a + crP k - b) % crP k = w2 at *
      generalize a * b % crP k = w3 at *
      generalize w % crP k = w4 at *
      generalize cmpI a (crP k) = j1 at *
      generalize cmpI b (crP k) = j2 at *
      simp only [EE,EX,Nat.reduceLeDiff,Nat.reduceEqDiff,Int.reduceEq,reduceCtorEq,Nat.reduceAdd,Nat.reduceMul,if_true,if_false,decide_true,decide_false, c0, c2, k0, g1, s1, s2, s3, s4, t1, t2, t3, f1, f2, q1, q2, d1, d2, u1, u2, u3, v1, v2, v3, widev_noHp, n0, n1, natv_noHp, p7_0, p7_1, p7, sp7, okc7, okc7n, okc7z, eq9s, Bool.not_true, Bool.not_false]
    · have s1 := r_fAdd_no hk ha hb hab
      have s2 := r_fSub_no hk ha hb hab
      have s3 := r_fMul_no hk ha hb hab
      by_cases h1 : a < crP k
      · rw [decide_eq_false (show ¬ crP k ≤ a by omega)] at d1
        rw [decide_eq_true (show crP k ≤ b by omega)] at d2
        clear cv
        simp only [curvev] at *
        generalize w % crP k = w4 at *
        generalize cmpI a (crP k) = j1 at *
        generalize cmpI b (crP k) = j2 at *
        simp only [EE,EX,Nat.reduceLeDiff,Nat.reduceEqDiff,Int.reduceEq,reduceCtorEq,Nat.reduceAdd,Nat.reduceMul,if_true,if_false,decide_true,decide_false, c0, c2, c4, k0, k4, g1, s1, s2, s3, s4, t1, t2, t3, f1, f2, q1, q2, d1, d2, widev_noHp, n0, n1, natv_noHp, p7_0, p7_1, p7, sp7, okc7, okc7n, okc7z, eq9s, Bool.not_true, Bool.not_false]
      · rw [decide_eq_true (show crP k ≤ a by omega)] at d1
        clear cv d2
        simp only [curvev] at *
        generalize w % crP k = w4 at *
        generalize cmpI a (crP k) = j1 at *
        generalize cmpI b (crP k) = j2 at *
        simp only [EE,EX,Nat.reduceLeDiff,Nat.reduceEqDiff,Int.reduceEq,reduceCtorEq,Nat.reduceAdd,Nat.reduceMul,if_true,if_false,decide_true,decide_false, c0, c2, c4, k0, k4, g1, s1, s2, s3, s4, t1, t2, t3, f1, f2, q1, d1, widev_noHp, n0, n1, natv_noHp, p7_0, p7_1, p7, sp7, okc7, okc7n, okc7z, eq9s, Bool.not_true, Bool.not_false]

theorem law_FieldRoots {z : Int} {a : Nat} (_ : -9223372036854775808 ≤ z) (_ : z < 9223372036854775808) (ha : a < M) : Run T f_curvetlaw5_FieldRoots [.i z, natv a] [] = some (.b true, []) := by
  rw [Run_at T _ (show T f_curvetlaw5_FieldRoots = some m_curvetlaw5_FieldRoots from rfl)]
  simp only [c_curvetlaw5_FieldRoots, zero9]
  have c0 := r_awake
  have hM := Mpos
  have c2 := r_Num 0
  have c3 := r_Num 500
  have c4 := r_Num 501
  have c5 := r_Num 502
  have c6 := r_Num 503
  have k0 := eqis 0
  have k3 := eqis 500
  have k4 := eqis 501
  have k5 := eqis 502
  have k6 := eqis 503
  have n1 := fun x => num_noHp x 6
  have f1 := r_From ha
  have la := lenF ha
  rcases id_cases (z := z) with hz | ⟨k, rfl, hk⟩
  · have g1 := Get_none hz
    have s1 := fInv_none (a := a) hz
    have s2 := fSqrt_none (a := a) hz
    have n0 : True := trivial
    simp only [EE,EX,Nat.reduceLeDiff,Nat.reduceEqDiff,Int.reduceEq,reduceCtorEq,Nat.reduceAdd,Nat.reduceMul,if_true,if_false,decide_true,decide_false, c0, c3, k3, g1, s1, s2, f1, n0, n1, natv_noHp, p7_0, p7_1, p7, sp7, okc7, okc7n, okc7z, eq9s, Bool.not_true, Bool.not_false]
  · have cv := cv_ok hk
    have lt := cv.lt
    have big := cv.big
    have pr := cv.pr
    have odd := cv.odd
    have g1 := r_Get hk
    have n0 := curvev_noHp hk
    have pos : 0 < crP k := by omega
    have lp := lenF lt
    have q1 := r_refCmp (a := a) (b := crP k) (fitF (by omega)) (fitF (by omega))
    have d1 := cmp_ge (a := a) (p := crP k)
    have kl : decide ((dg a).length < 9223372036854775808) = true := by simp; omega
    by_cases h1 : a < crP k
    · rw [decide_eq_false (show ¬ crP k ≤ a by omega)] at d1
      by_cases h0 : a = 0
      · have s1 := r_fInv_zero hk
        have s2 := r_fSqrt_zero hk
        subst h0
        have e0 : decide (((dg 0).length : Int) = 0) = true := rfl
        clear cv
        simp only [curvev] at *
        generalize cmpI 0 (crP k) = j1 at *
        simp only [EE,EX,Nat.reduceLeDiff,Nat.reduceEqDiff,Int.reduceEq,reduceCtorEq,Nat.reduceAdd,Nat.reduceMul,if_true,if_false,decide_true,decide_false, c0, c2, c5, k0, k5, g1, s1, s2, f1, q1, d1, kl, e0, n0, n1, natv_noHp, p7_0, p7_1, p7, sp7, okc7, okc7n, okc7z, eq9s, Bool.not_true, Bool.not_false]
      · have e0 : decide (((dg a).length : Int) = 0) = false := decide_eq_false (by have := dgPos h0; omega)
        obtain ⟨i, i1, i2, i3, s1⟩ := inv_ex hk h1 h0
        obtain ⟨j, j1, j2, s2⟩ := r_refInverse (a := a) (m := crP k) (by omega) (by omega) (by omega) (pr.gcd (pr.mod_ne (by omega) h1))
        have e1 : j = i := inv_uniq j1 i1 j2 i3
        rw [e1] at s2
        have v1 := r_Nat (x := i) (fitF (by omega))
        obtain ⟨z1, z2, z3, z4⟩ := crZ_ok hk
        by_cases he : a ^ ((crP k - 1) / 2) % crP k = 1
        · obtain ⟨y, y1, y2, y3, s3⟩ := r_fSqrt_ok hk h1 h0 he
          obtain ⟨x, x1, x2, x3, s4⟩ := r_refSqrt_ok pr lt big h1 odd h0 he z1 z2 z3 z4
          have e2 : x = y := pr.even_root odd x1 y1 x2 y2 (by rw [x3, y3])
          rw [e2] at s4
          have v2 := r_Nat (x := y) (fitF (by omega))
          clear cv he z3 z4 y3 x3 e1 e2 i3 j2
          simp only [curvev] at *
          generalize cmpI a (crP k) = jc at *
          simp only [EE,EX,Nat.reduceLeDiff,Nat.reduceEqDiff,Int.reduceEq,reduceCtorEq,Nat.reduceAdd,Nat.reduceMul,if_true,if_false,decide_true,decide_false, c0, c2, c5, k0, k5, g1, s1, s2, s3, s4, v1, v2, f1, q1, d1, kl, e0, n0, n1, natv_noHp, p7_0, p7_1, p7, sp7, okc7, okc7n, okc7z, eq9s, Bool.not_true, Bool.not_false]
        · have s3 := r_fSqrt_non hk h1 h0 he
          have s4 := r_refSqrt_no pr lt big h1 h0 he
          clear cv he z3 z4 e1 i3 j2
          simp only [curvev] at *
          generalize cmpI a (crP k) = jc at *
          simp only [EE,EX,Nat.reduceLeDiff,Nat.reduceEqDiff,Int.reduceEq,reduceCtorEq,Nat.reduceAdd,Nat.reduceMul,if_true,if_false,decide_true,decide_false, c0, c2, c5, c6, k0, k5, k6, g1, s1, s2, s3, s4, v1, f1, q1, d1, kl, e0, n0, n1, natv_noHp, p7_0, p7_1, p7, sp7, okc7, okc7n, okc7z, eq9s, Bool.not_true, Bool.not_false]
    · rw [decide_eq_true (show crP k ≤ a by omega)] at d1
      have s1 := r_fInv_no hk ha h1
      have s2 := r_fSqrt_no hk ha h1
      clear cv
      simp only [curvev] at *
      generalize cmpI a (crP k) = j1 at *
      simp only [EE,EX,Nat.reduceLeDiff,Nat.reduceEqDiff,Int.reduceEq,reduceCtorEq,Nat.reduceAdd,Nat.reduceMul,if_true,if_false,decide_true,decide_false, c0, c2, c4, k0, k4, g1, s1, s2, f1, q1, d1, kl, n0, n1, natv_noHp, p7_0, p7_1, p7, sp7, okc7, okc7n, okc7z, eq9s, Bool.not_true, Bool.not_false]

end Mir
