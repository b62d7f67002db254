/- The law TopFields as the small language runs it: true of all arguments. Conditions: none. -/
import Derived.Test.YtmfbmdbabebhmaaAllT
import Derived.Test.YtmfbmdbabebhmaaAllF
import Derived.Test.YtmfbmdbabebhmaaAllM
set_option linter.unusedVariables false
set_option linter.unusedSectionVars false
set_option linter.unusedSimpArgs false
set_option exponentiation.threshold 5000
set_option maxRecDepth 20000
namespace Mir

theorem mon_back {x y R I m : Nat} (h : I * R % m = 1) : x * R % m * (y * R % m) * I % m * I % m = x * y % m := by
  have e : x * R % m * (y * R % m) * I % m * I % m = x * y * (I * R) * (I * R) % m := by
    rw [Nat.mod_mul_mod, Nat.mul_assoc (x * R % m * (y * R % m)), Nat.mul_mod (x * R % m * (y * R % m)), ← Nat.mul_mod (x * R), ← Nat.mul_mod]
    congr 1
    simp only [Nat.mul_comm, Nat.mul_left_comm, Nat.mul_assoc]
  rw [e, Nat.mul_mod, h, Nat.mul_one, Nat.mod_mod, Nat.mul_mod (x * y), h, Nat.mul_one, Nat.mod_mod]

theorem law_TopFields {z : Int} {a b : Nat} (_ : -9223372036854775808 ≤ z) (_ : z < 9223372036854775808) (ha : a < M) (hb : b < M) :
    Run T f_curvettop_TopFields [.i z, natv a, natv b] [] = some (.b true, []) := by
  rw [Run_at T _ (show T f_curvettop_TopFields = some m_curvettop_TopFields from rfl)]
  simp only [c_curvettop_TopFields, zeroCv, zero9]
  have c0 := r_topAwake
  have n0 := r_Num 0
  have hk := kOf_cid z
  have cv := cv_ok hk
  have lt := cv.lt
  have big := cv.big
  have odd := cv.odd
  have kz := kOf_w z
  generalize kOf z = k at *
  have c1 := r_cGet hk
  have p0 : crP k ≠ 0 := by omega
  have c2 := r_Div ha lt p0
  have c3 := r_Div hb lt p0
  have c4 := r_New lt odd (by omega)
  have x1 : a % crP k < crP k := Nat.mod_lt _ (by omega)
  have x2 : b % crP k < crP k := Nat.mod_lt _ (by omega)
  have c5 := r_fMul hk x1 x2
  rw [← Nat.mul_mod] at c5
  have c6 := r_MulMod ha hb lt p0
  have c7 := r_To lt odd (by omega) x1
  have c8 := r_To lt odd (by omega) x2
  have y1 : a % crP k * monR (crP k) % crP k < crP k := Nat.mod_lt _ (by omega)
  have y2 : b % crP k * monR (crP k) % crP k < crP k := Nat.mod_lt _ (by omega)
  have c9 := r_MMul lt odd (by omega) y1 y2
  have y3 : a % crP k * monR (crP k) % crP k * (b % crP k * monR (crP k) % crP k) * monI (crP k) % crP k < crP k := Nat.mod_lt _ (by omega)
  have c10 := r_MFrom lt odd (by omega) y3
  rw [mon_back (monI_ok odd (by omega)).2, ← Nat.mul_mod] at c10
  have c11 := r_natMul ha hb
  have c12 := r_fReduce (W := a * b) hk (Nat.mul_lt_mul'' ha hb)
  have e9 := eq9s (a * b % crP k)
  have nc := cvh_np8 k
  have nm := mont_noHp (crP k) 6
  have d0 : decide ((0 : Int) = 0) = true := rfl
  simp only [cvh, cvhL] at *
  generalize crBits k = z1 at *
  generalize crSize k = z2 at *
  generalize crLeg k = z3 at *
  generalize crN k = z5 at *
  generalize crX k = z6 at *
  generalize crY k = z7 at *
  generalize crA k = z8 at *
  generalize crB k = z9 at *
  clear cv odd big
  generalize crP k = p at *
  generalize a % p * monR p % p * (b % p * monR p % p) * monI p % p = r1 at *
  generalize a % p * monR p % p = r2 at *
  generalize b % p * monR p % p = r3 at *
  generalize a * b % p = r4 at *
  generalize a * b = r5 at *
  generalize a % p = r6 at *
  generalize b % p = r7 at *
  generalize a / p = r8 at *
  generalize b / p = r9 at *
  simp only [mont] at *
  generalize monL p (Mir.nw p) (lessV p) (monR p % p * (monR p % p) % p) = X at *
  clear y1 y2 y3 x1 x2
  simp only [EE,EX,Nat.reduceLeDiff,Nat.reduceEqDiff,Int.reduceEq,reduceCtorEq,Nat.reduceAdd,Nat.reduceMul,if_true,if_false,decide_true,decide_false, kz.eq, c0, n0, c1, c2, c3, c4, c5, c6, c7, c8, c9, c10, c11, c12, e9, nc, nm, d0, natv_noHp, widev_noHp, ch_ok, ch_len, ch_sa, ch_p, ch_i, Bool.not_true, Bool.not_false]

end Mir
