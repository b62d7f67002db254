/- Chapter 5, laws as the small language runs them: rules of sums, products that are reduced. Conditions: none. -/
import Derived.Test.YtghioibhhmcfoaaAllF
set_option linter.unusedVariables false
set_option linter.unusedSectionVars false
set_option linter.unusedSimpArgs false
set_option exponentiation.threshold 5000
set_option maxRecDepth 20000
namespace Mir

theorem rule_mul (x y z p : Nat) : (x + y) % p * z % p = (x * z % p + y * z % p) % p := by
  rw [Nat.mod_mul_mod, Nat.add_mul, ← Nat.add_mod]
theorem rule_sub {x y p : Nat} (hx : x < p) (hy : y < p) : ((x + y) % p + p - y) % p = x := by
  by_cases h : x + y < p
  · rw [Nat.mod_eq_of_lt h, show x + y + p - y = x + p by omega, Nat.add_mod_right, Nat.mod_eq_of_lt hx]
  · rw [Nat.mod_eq_sub_mod (show x + y ≥ p by omega), Nat.mod_eq_of_lt (a := x + y - p) (by omega), show x + y - p + p - y = x by omega, Nat.mod_eq_of_lt hx]

theorem law_FieldRules {z : Int} {a b c : Nat} (_ : -9223372036854775808 ≤ z) (_ : z < 9223372036854775808) (ha : a < M) (hb : b < M) (hc : c < M) : Run T f_curvetlaw5_FieldRules [.i z, natv a, natv b, natv c] [] = some (.b true, []) := by
  rw [Run_at T _ (show T f_curvetlaw5_FieldRules = some m_curvetlaw5_FieldRules from rfl)]
  simp only [c_curvetlaw5_FieldRules, zero9]
  have c0 := r_awake
  have c2 := r_Num 0
  have k0 := eqis 0
  have hk := kOf_cid z
  have cv := cv_ok hk
  have lt := cv.lt
  have big := cv.big
  have g1 := r_Get hk
  have kz := kOf_w z
  generalize kOf z = k at *
  have b1 := r_below hk ha
  have b2 := r_below hk hb
  have b3 := r_below hk hc
  have x1 : a % crP k < crP k := Nat.mod_lt _ (by omega)
  have x2 : b % crP k < crP k := Nat.mod_lt _ (by omega)
  have x3 : c % crP k < crP k := Nat.mod_lt _ (by omega)
  generalize a % crP k = a1 at *
  generalize b % crP k = a2 at *
  generalize c % crP k = a3 at *
  have s1 := r_fAdd hk x1 x2
  have y1 : (a1 + a2) % crP k < crP k := Nat.mod_lt _ (by omega)
  have s2 := r_fMul hk y1 x3
  have s3 := r_fMul hk x1 x3
  have s4 := r_fMul hk x2 x3
  have s5 := r_fAdd hk (Nat.mod_lt (a1 * a3) (show 0 < crP k by omega)) (Nat.mod_lt (a2 * a3) (show 0 < crP k by omega))
  have s6 := r_fSub hk y1 x2
  rw [rule_mul] at s2
  rw [rule_sub x1 x2] at s6
  have n0 := curvev_noHp hk
  have n1 := fun x => num_noHp x 6
  simp only [curvev] at *
  clear cv y1
  generalize (a1 + a2) % crP k = e1 at *
  generalize a1 * a3 % crP k = e2 at *
  generalize a2 * a3 % crP k = e3 at *
  generalize (e2 + e3) % crP k = e4 at *
  simp only [EE,EX,Nat.reduceLeDiff,Nat.reduceEqDiff,Int.reduceEq,reduceCtorEq,Nat.reduceAdd,Nat.reduceMul,if_true,if_false,decide_true,decide_false, c0, c2, k0, kz.eq, g1, b1, b2, b3, s1, s2, s3, s4, s5, s6, n0, n1, natv_noHp, p7_0, p7_1, p7, sp7, okc7, okc7n, okc7z, eq9s, Bool.not_true, Bool.not_false]


theorem law_FieldReduces {z : Int} {a b : Nat} (_ : -9223372036854775808 ≤ z) (_ : z < 9223372036854775808) (ha : a < M) (hb : b < M) : Run T f_curvetlaw5_FieldReduces [.i z, natv a, natv b] [] = some (.b true, []) := by
  rw [Run_at T _ (show T f_curvetlaw5_FieldReduces = some m_curvetlaw5_FieldReduces from rfl)]
  simp only [c_curvetlaw5_FieldReduces, zero9]
  have c0 := r_awake
  have hM := Mpos
  have c2 := r_Num 0
  have k0 := eqis 0
  have hk := kOf_cid z
  have cv := cv_ok hk
  have lt := cv.lt
  have big := cv.big
  have pr := cv.pr
  have odd := cv.odd
  have g1 := r_curveOf (z := z)
  have n0 := curvev_noHp hk
  have n1 := fun x => num_noHp x 6
  generalize kOf z = k at *
  have pos : 0 < crP k := by omega
  have b1 := r_below hk ha
  have b2 := r_below hk hb
  have x1 : a % crP k < crP k := Nat.mod_lt _ pos
  have x2 : b % crP k < crP k := Nat.mod_lt _ pos
  have m0 := r_natMul (x := crP k) (y := a) lt ha
  have q0 := r_fReduce hk (W := crP k * a) (Nat.mul_lt_mul_of_lt_of_lt lt ha)
  rw [Nat.mul_mod_right] at q0
  generalize a % crP k = a1 at *
  generalize b % crP k = a2 at *
  have m1 := r_natMul (x := a1) (y := a2) (by omega) (by omega)
  have q1 := r_fReduce hk (W := a1 * a2) (Nat.mul_lt_mul_of_lt_of_lt (by omega) (by omega))
  have q2 := r_fMul hk x1 x2
  have one0 := r_One (x := 0) (by omega)
  clear cv
  simp only [curvev] at *
  generalize a1 * a2 % crP k = e1 at *
  generalize a1 * a2 = e2 at *
  generalize crP k * a = e3 at *
  simp only [EE,EX,Nat.reduceLeDiff,Nat.reduceEqDiff,Int.reduceEq,reduceCtorEq,Nat.reduceAdd,Nat.reduceMul,if_true,if_false,decide_true,decide_false, c0, c2, k0, g1, b1, b2, m0, m1, q0, q1, q2, widev_noHp, n0, n1, natv_noHp, p7_0, p7_1, p7, sp7, okc7, okc7n, okc7z, eq9s, Bool.not_true, Bool.not_false]

theorem eqv_b2 (a b : Bool) : eqV .bool (.b a) (.b b) = some (decide (a = b)) := by cases a <;> cases b <;> rfl
/-- Of a number that is not 0: the root's number. -/
theorem sqrt_two {k a : Nat} (h : Cid k) (ha : a < crP k) (h0 : a ≠ 0) : ∃ y e, Run T f_field_Sqrt [.i (k : Int), natv a] [] = some (.tup [natv y, .i e], []) ∧ ((a ^ ((crP k - 1) / 2) % crP k = 1 ∧ e = 0) ∨ (a ^ ((crP k - 1) / 2) % crP k = crP k - 1 ∧ e = 503)) := by
  have c := cv_ok h
  rcases c.pr.euler c.odd h0 ha with h1 | h1
  · obtain ⟨y, y1, y2, y3, y4⟩ := r_fSqrt_ok h ha h0 h1
    exact ⟨y, 0, y4, .inl ⟨h1, rfl⟩⟩
  · refine ⟨0, 503, r_fSqrt_non h ha h0 ?_, .inr ⟨h1, rfl⟩⟩
    have := c.big
    rw [h1]; omega

theorem law_FieldProducts {z : Int} {a b : Nat} (_ : -9223372036854775808 ≤ z) (_ : z < 9223372036854775808) (ha : a < M) (hb : b < M) : Run T f_curvetlaw5_FieldProducts [.i z, natv a, natv b] [] = some (.b true, []) := by
  rw [Run_at T _ (show T f_curvetlaw5_FieldProducts = some m_curvetlaw5_FieldProducts from rfl)]
  simp only [c_curvetlaw5_FieldProducts, zero9]
  have c0 := r_awake
  have hM := Mpos
  have c2 := r_Num 0
  have k0 := eqis 0
  have hk := kOf_cid z
  have cv := cv_ok hk
  have lt := cv.lt
  have big := cv.big
  have pr := cv.pr
  have odd := cv.odd
  have g1 := r_curveOf (z := z)
  have n0 := curvev_noHp hk
  have n1 := fun x => num_noHp x 6
  generalize kOf z = k at *
  have pos : 0 < crP k := by omega
  have b1 := r_below hk ha
  have b2 := r_below hk hb
  have x1 : a % crP k < crP k := Nat.mod_lt _ pos
  have x2 : b % crP k < crP k := Nat.mod_lt _ pos
  generalize a % crP k = a1 at *
  generalize b % crP k = a2 at *
  have z1 := eq9 (x := a1) (y := 0) (by omega) (by omega)
  have z2 := eq9 (x := a2) (y := 0) (by omega) (by omega)
  by_cases h1 : a1 = 0
  · rw [decide_eq_true h1] at z1
    clear cv
    simp only [curvev] at *
    simp only [EE,EX,Nat.reduceLeDiff,Nat.reduceEqDiff,Int.reduceEq,reduceCtorEq,Nat.reduceAdd,Nat.reduceMul,if_true,if_false,decide_true,decide_false, c0, c2, k0, g1, b1, b2, z1, n0, n1, natv_noHp, p7_0, p7_1, p7, sp7, okc7, okc7n, okc7z, eq9s, Bool.not_true, Bool.not_false]
  · rw [decide_eq_false h1] at z1
    by_cases h2 : a2 = 0
    · rw [decide_eq_true h2] at z2
      clear cv
      simp only [curvev] at *
      simp only [EE,EX,Nat.reduceLeDiff,Nat.reduceEqDiff,Int.reduceEq,reduceCtorEq,Nat.reduceAdd,Nat.reduceMul,if_true,if_false,decide_true,decide_false, c0, c2, k0, g1, b1, b2, z1, z2, n0, n1, natv_noHp, p7_0, p7_1, p7, sp7, okc7, okc7n, okc7z, eq9s, Bool.not_true, Bool.not_false]
    · rw [decide_eq_false h2] at z2
      have q := r_fMul hk x1 x2
      have x3 : a1 * a2 % crP k < crP k := Nat.mod_lt _ pos
      have h3 := pr.mul_ne x1 x2 h1 h2
      obtain ⟨y1, e1, s1, t1⟩ := sqrt_two hk x1 h1
      obtain ⟨y2, e2, s2, t2⟩ := sqrt_two hk x2 h2
      obtain ⟨y3, e3, s3, t3⟩ := sqrt_two hk x3 h3
      have hm : (a1 * a2 % crP k) ^ ((crP k - 1) / 2) % crP k = a1 ^ ((crP k - 1) / 2) % crP k * (a2 ^ ((crP k - 1) / 2) % crP k) % crP k := by
        rw [← Nat.pow_mod, Nat.mul_pow, mul_mod2]
      have nn := neg_neg_mod (p := crP k) (by omega)
      have m1 : (crP k - 1) % crP k = crP k - 1 := Nat.mod_eq_of_lt (by omega)
      have m2 : 1 % crP k = 1 := Nat.mod_eq_of_lt (by omega)
      have r1 := r_Num e1
      have r2 := r_Num e2
      have r3 := r_Num e3
      have d : decide (decide (decide (e1 = 0) = decide (e2 = 0)) = decide (e3 = 0)) = true := by
        rcases t1 with ⟨t1, u1⟩ | ⟨t1, u1⟩ <;> rcases t2 with ⟨t2, u2⟩ | ⟨t2, u2⟩ <;> rw [t1, t2] at hm <;> simp only [Nat.one_mul, Nat.mul_one, m1, m2, nn] at hm <;> rcases t3 with ⟨t3, u3⟩ | ⟨t3, u3⟩ <;> subst u1 u2 u3 <;> first | rfl | (exfalso; omega)
      clear cv t1 t2 t3 hm nn m1 m2
      simp only [curvev] at *
      generalize a1 * a2 % crP k = w at *
      simp only [EE,EX,Nat.reduceLeDiff,Nat.reduceEqDiff,Int.reduceEq,reduceCtorEq,Nat.reduceAdd,Nat.reduceMul,if_true,if_false,decide_true,decide_false, c0, c2, k0, g1, b1, b2, z1, z2, q, s1, s2, s3, r1, r2, r3, eqv_b2, d, n0, n1, natv_noHp, p7_0, p7_1, p7, sp7, okc7, okc7n, okc7z, eq9s, Bool.not_true, Bool.not_false]

theorem law_FieldInverses {z : Int} {a b : Nat} (_ : -9223372036854775808 ≤ z) (_ : z < 9223372036854775808) (ha : a < M) (hb : b < M) : Run T f_curvetlaw5_FieldInverses [.i z, natv a, natv b] [] = some (.b true, []) := by
  rw [Run_at T _ (show T f_curvetlaw5_FieldInverses = some m_curvetlaw5_FieldInverses from rfl)]
  simp only [c_curvetlaw5_FieldInverses, zero9]
  have c0 := r_awake
  have hM := Mpos
  have c2 := r_Num 0
  have k0 := eqis 0
  have hk := kOf_cid z
  have cv := cv_ok hk
  have lt := cv.lt
  have big := cv.big
  have pr := cv.pr
  have odd := cv.odd
  have g1 := r_curveOf (z := z)
  have n0 := curvev_noHp hk
  have n1 := fun x => num_noHp x 6
  generalize kOf z = k at *
  have pos : 0 < crP k := by omega
  have b1 := r_below hk ha
  have b2 := r_below hk hb
  have x1 : a % crP k < crP k := Nat.mod_lt _ pos
  have x2 : b % crP k < crP k := Nat.mod_lt _ pos
  generalize a % crP k = a1 at *
  generalize b % crP k = a2 at *
  have z1 := eq9 (x := a1) (y := 0) (by omega) (by omega)
  have z2 := eq9 (x := a2) (y := 0) (by omega) (by omega)
  by_cases h1 : a1 = 0
  · rw [decide_eq_true h1] at z1
    clear cv
    simp only [curvev] at *
    simp only [EE,EX,Nat.reduceLeDiff,Nat.reduceEqDiff,Int.reduceEq,reduceCtorEq,Nat.reduceAdd,Nat.reduceMul,if_true,if_false,decide_true,decide_false, c0, c2, k0, g1, b1, b2, z1, n0, n1, natv_noHp, p7_0, p7_1, p7, sp7, okc7, okc7n, okc7z, eq9s, Bool.not_true, Bool.not_false]
  · rw [decide_eq_false h1] at z1
    by_cases h2 : a2 = 0
    · rw [decide_eq_true h2] at z2
      clear cv
      simp only [curvev] at *
      simp only [EE,EX,Nat.reduceLeDiff,Nat.reduceEqDiff,Int.reduceEq,reduceCtorEq,Nat.reduceAdd,Nat.reduceMul,if_true,if_false,decide_true,decide_false, c0, c2, k0, g1, b1, b2, z1, z2, n0, n1, natv_noHp, p7_0, p7_1, p7, sp7, okc7, okc7n, okc7z, eq9s, Bool.not_true, Bool.not_false]
    · rw [decide_eq_false h2] at z2
      have q := r_fMul hk x1 x2
      have x3 : a1 * a2 % crP k < crP k := Nat.mod_lt _ pos
      have h3 := pr.mul_ne x1 x2 h1 h2
      obtain ⟨i1, i1a, i1b, i1c, s1⟩ := inv_ex hk x1 h1
      obtain ⟨i2, i2a, i2b, i2c, s2⟩ := inv_ex hk x2 h2
      obtain ⟨i3, i3a, i3b, i3c, s3⟩ := inv_ex hk x3 h3
      obtain ⟨i4, i4a, i4b, i4c, s4⟩ := inv_ex hk i1a i1b
      have q2 := r_fMul hk i1a i2a
      have e1 : i1 * i2 % crP k = i3 := by
        refine inv_uniq (a := a1 * a2 % crP k) (Nat.mod_lt _ pos) i3a ?_ i3c
        rw [mul_mod2, show i1 * i2 * (a1 * a2) = i1 * a1 * (i2 * a2) by grind, ← mul_mod2, i1c, i2c, Nat.mod_eq_of_lt (by omega)]
      have e2 : i4 = a1 := inv_uniq (a := i1) i4a x1 i4c (by rw [Nat.mul_comm]; exact i1c)
      rw [e1] at q2
      rw [e2] at s4
      clear cv i1c i2c i3c i4c e1 e2
      simp only [curvev] at *
      generalize a1 * a2 % crP k = w at *
      simp only [EE,EX,Nat.reduceLeDiff,Nat.reduceEqDiff,Int.reduceEq,reduceCtorEq,Nat.reduceAdd,Nat.reduceMul,if_true,if_false,decide_true,decide_false, c0, c2, k0, g1, b1, b2, z1, z2, q, q2, s1, s2, s3, s4, n0, n1, natv_noHp, p7_0, p7_1, p7, sp7, okc7, okc7n, okc7z, eq9s, Bool.not_true, Bool.not_false]

theorem law_FieldFermat {z : Int} {a : Nat} (_ : -9223372036854775808 ≤ z) (_ : z < 9223372036854775808) (ha : a < M) : Run T f_curvetlaw5_FieldFermat [.i z, natv a] [] = some (.b true, []) := by
  rw [Run_at T _ (show T f_curvetlaw5_FieldFermat = some m_curvetlaw5_FieldFermat from rfl)]
  simp only [c_curvetlaw5_FieldFermat, zero9]
  have c0 := r_awake
  have hM := Mpos
  have c2 := r_Num 0
  have k0 := eqis 0
  have hk := kOf_cid z
  have cv := cv_ok hk
  have lt := cv.lt
  have big := cv.big
  have pr := cv.pr
  have odd := cv.odd
  have g1 := r_curveOf (z := z)
  have n0 := curvev_noHp hk
  have n1 := fun x => num_noHp x 6
  generalize kOf z = k at *
  have pos : 0 < crP k := by omega
  have b1 := r_below hk ha
  have x1 : a % crP k < crP k := Nat.mod_lt _ pos
  generalize a % crP k = a1 at *
  have z1 := eq9 (x := a1) (y := 0) (by omega) (by omega)
  by_cases h1 : a1 = 0
  · rw [decide_eq_true h1] at z1
    clear cv
    simp only [curvev] at *
    simp only [EE,EX,Nat.reduceLeDiff,Nat.reduceEqDiff,Int.reduceEq,reduceCtorEq,Nat.reduceAdd,Nat.reduceMul,if_true,if_false,decide_true,decide_false, c0, c2, k0, g1, b1, z1, n0, n1, natv_noHp, p7_0, p7_1, p7, sp7, okc7, okc7n, okc7z, eq9s, Bool.not_true, Bool.not_false]
  · rw [decide_eq_false h1] at z1
    have o1 := r_One (x := 1) (by omega)
    have o2 := r_One (x := 2) (by omega)
    have u1 := r_natSub (x := crP k) (y := 1) lt (by omega)
    have u2 := r_natSub (x := crP k) (y := 2) lt (by omega)
    rw [show (crP k + M - 1) % M = crP k - 1 by rw [show crP k + M - 1 = crP k - 1 + M by omega, Nat.add_mod_right, Nat.mod_eq_of_lt (by omega)]] at u1
    rw [show (crP k + M - 2) % M = crP k - 2 by rw [show crP k + M - 2 = crP k - 2 + M by omega, Nat.add_mod_right, Nat.mod_eq_of_lt (by omega)]] at u2
    have w1 := r_PowMod (a := a1) (e := crP k - 1) (m := crP k) (by omega) (by omega) lt (by omega)
    have w2 := r_PowMod (a := a1) (e := crP k - 2) (m := crP k) (by omega) (by omega) lt (by omega)
    rw [pr.fermat (pr.mod_ne (by omega) x1)] at w1
    obtain ⟨i1, i1a, i1b, i1c, s1⟩ := inv_ex hk x1 h1
    have e1 : a1 ^ (crP k - 2) % crP k = i1 := by
      refine inv_uniq (a := a1) (Nat.mod_lt _ pos) i1a ?_ i1c
      rw [Nat.mod_mul_mod, ← Nat.pow_succ, show (crP k - 2).succ = crP k - 1 by omega]
      exact pr.fermat (pr.mod_ne (by omega) x1)
    rw [e1] at w2
    clear cv i1c e1
    simp only [curvev] at *
    generalize crP k - 1 = v1 at *
    generalize crP k - 2 = v2 at *
    obtain ⟨d1, hd1⟩ : ∃ d, d = decide (crP k < 1) := ⟨_, rfl⟩
    obtain ⟨d2, hd2⟩ : ∃ d, d = decide (crP k < 2) := ⟨_, rfl⟩
    rw [← hd1] at u1
    rw [← hd2] at u2
    simp only [EE,EX,Nat.reduceLeDiff,Nat.reduceEqDiff,Int.reduceEq,reduceCtorEq,Nat.reduceAdd,Nat.reduceMul,if_true,if_false,decide_true,decide_false, c0, c2, k0, g1, b1, z1, o1, o2, u1, u2, w1, w2, s1, n0, n1, natv_noHp, p7_0, p7_1, p7, sp7, okc7, okc7n, okc7z, eq9s, Bool.not_true, Bool.not_false]

end Mir
