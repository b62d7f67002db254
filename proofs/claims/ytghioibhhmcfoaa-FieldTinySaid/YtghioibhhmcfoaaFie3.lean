/- Chapter 5, laws as the small language runs them: bounds, tiny fields. Conditions: none. -/
import Derived.Test.YtghioibhhmcfoaaFieJ
import Derived.KernelRfl
set_option linter.unusedVariables false
set_option linter.unusedSectionVars false
set_option linter.unusedSimpArgs false
set_option exponentiation.threshold 5000
set_option maxRecDepth 20000
set_option maxHeartbeats 1000000
namespace Mir

/-- The lowest word is set. -/
def low1 (m w : Nat) : Nat := m / 2 ^ 64 * 2 ^ 64 + w
theorem low1_set {m w : Nat} (hw : w < 2 ^ 64) : (us 64 (dl 64 9 m)).set 0 (.u 64 w) = us 64 (dl 64 9 (low1 m w)) := by
  rw [us_set]
  congr 1
  unfold low1
  have e : ∀ j, 1 ≤ j → (m / 2 ^ 64 * 2 ^ 64 + w) / 2 ^ (64 * j) = m / 2 ^ (64 * j) := fun j hj => by
    obtain ⟨k, hk⟩ : ∃ k, j = k + 1 := ⟨j - 1, by omega⟩
    rw [hk, show 64 * (k + 1) = 64 + 64 * k by omega, Nat.pow_add, ← Nat.div_div_eq_div_mul, ← Nat.div_div_eq_div_mul]
    congr 1
    omega
  apply List.ext_getElem
  · simp [dl_len]
  · intro k h1 h2
    rw [dl_len] at h2
    have e2 : ∀ x, (dl 64 9 x)[k]'(by rw [dl_len]; exact h2) = x / 2 ^ (64 * k) % 2 ^ 64 := fun x => by simp [dl, tb]
    rw [List.getElem_set]
    by_cases h : 0 = k
    · rw [if_pos h]
      subst h
      rw [e2, Nat.mul_zero, Nat.pow_zero, Nat.div_one]
      omega
    · rw [if_neg h, e2, e2, e k (by omega)]
theorem low1_lt {m w : Nat} (hm : m < M) (hw : w < 2 ^ 64) : low1 m w < M := by
  unfold low1
  have h1 : ∃ K, M = 2 ^ 64 * K := ⟨2 ^ 512, by unfold M; rw [← Nat.pow_add]⟩
  obtain ⟨K, hK⟩ := h1
  rw [hK] at hm ⊢
  omega
theorem low1_w {m w : Nat} (hw : w < 2 ^ 64) : low1 m w % 2 ^ 64 = w := by unfold low1; omega
theorem low1_ge {m w : Nat} (h : ¬ w < m % 2 ^ 64) : m ≤ low1 m w := by unfold low1; omega
theorem low1_dec {m : Nat} (h : m % 2 = 1) : (m % 2 ^ 64 + 2 ^ 64 - 1) % 2 ^ 64 = m % 2 ^ 64 - 1 ∧ low1 m (m % 2 ^ 64 - 1) = m - 1 ∧ m % 2 ^ 64 - 1 < 2 ^ 64 := by unfold low1; omega
theorem w0 (x : Nat) : part (us 64 (dl 64 9 x)) 0 none = some (.u 64 (x % 2 ^ 64)) := by
  have := dl_partL (L := 9) (x := x) (show 0 < 9 by omega)
  rw [Nat.mul_zero, Nat.pow_zero, Nat.div_one] at this
  exact this

theorem law_FieldBounds {z : Int} {t : Nat} (_ : -9223372036854775808 ≤ z) (_ : z < 9223372036854775808) (ht : t < 2 ^ 64) (b : Bool) : Run T f_curvetlaw5_FieldBounds [.i z, .u 64 t, .b b] [] = some (.b true, []) := by
  rw [Run_at T _ (show T f_curvetlaw5_FieldBounds = some m_curvetlaw5_FieldBounds from rfl)]
  simp only [c_curvetlaw5_FieldBounds, zero9]
  have c0 := r_awake
  have hM := Mpos
  have c2 := r_Num 0
  have c3 := r_Num 501
  have k0 := eqis 0
  have k3 := eqis 501
  have hk := kOf_cid z
  have cv := cv_ok hk
  have lt := cv.lt
  have big := cv.big
  have odd := cv.odd
  have g1 := r_curveOf (z := z)
  have n0 := curvev_noHp hk
  have n1 := fun x => num_noHp x 6
  generalize kOf z = k at *
  have pos : 0 < crP k := by omega
  have i9 : ixOf 9 (.i 0) = some 0 := rfl
  have o0 := r_One (x := 0) (by omega)
  have o1 := r_One (x := 1) (by omega)
  obtain ⟨w, hw⟩ : ∃ w, w = (crP k % 2 ^ 64 + t % 4) % 2 ^ 64 := ⟨_, rfl⟩
  have hw2 : w < 2 ^ 64 := by rw [hw]; exact Nat.mod_lt _ (by omega)
  have s0 := low1_set (m := crP k) hw2
  have w1 := w0 (crP k)
  have w2 := w0 (low1 (crP k) w)
  rw [low1_w hw2] at w2
  obtain ⟨d1, d2, d3⟩ := low1_dec odd
  have s1 := low1_set (m := crP k) d3
  rw [d2] at s1
  have a1 := r_fAdd hk (a := crP k - 1) (b := 1) (by omega) (by omega)
  rw [show (crP k - 1 + 1) % crP k = 0 by rw [show crP k - 1 + 1 = crP k by omega, Nat.mod_self]] at a1
  have a2 := r_fMul hk (a := crP k - 1) (b := crP k - 1) (by omega) (by omega)
  rw [neg_neg_mod (by omega)] at a2
  have key : ∀ B, B < M → crP k ≤ B → ∀ x y, (x = B ∧ y = 1) ∨ (x = 1 ∧ y = B) → Run T f_field_Add [.i (k : Int), natv x, natv y] [] = some (.tup [natv 0, .i 501], []) ∧ Run T f_field_Sub [.i (k : Int), natv x, natv y] [] = some (.tup [natv 0, .i 501], []) ∧ Run T f_field_Mul [.i (k : Int), natv x, natv y] [] = some (.tup [natv 0, .i 501], []) ∧ Run T f_field_Inv [.i (k : Int), natv B] [] = some (.tup [natv 0, .i 501], []) ∧ Run T f_field_Sqrt [.i (k : Int), natv B] [] = some (.tup [natv 0, .i 501], []) := by
    intro B hB hP x y hxy
    have hx : x < M := by omega
    have hy : y < M := by omega
    have hn : ¬ (x < crP k ∧ y < crP k) := by omega
    exact ⟨r_fAdd_no hk hx hy hn, r_fSub_no hk hx hy hn, r_fMul_no hk hx hy hn, r_fInv_no hk hB (by omega), r_fSqrt_no hk hB (by omega)⟩
  have kl := low1_lt lt hw2
  by_cases h1 : w < crP k % 2 ^ 64
  · have e1 : decide (w < crP k % 2 ^ 64) = true := decide_eq_true h1
    cases b
    · obtain ⟨x1, x2, x3, x4, x5⟩ := key (crP k) lt (Nat.le_refl _) (crP k) 1 (.inl ⟨rfl, rfl⟩)
      clear cv key d2 hw2 odd
      generalize low1 (crP k) w = lw at *
      generalize crP k - 1 = q at *
      rw [← d1] at s1
      simp only [curvev] at *
      generalize crP k % 2 ^ 64 = pw at *
      simp only [EE,EX,Nat.reduceLeDiff,Nat.reduceEqDiff,Int.reduceEq,reduceCtorEq,Nat.reduceAdd,Nat.reduceMul,if_true,if_false,decide_true,decide_false, c0, c2, c3, k0, k3, g1, i9, o0, o1, ← hw, s0, s1, w1, w2, a1, a2, e1, x1, x2, x3, x4, x5, n0, n1, natv_noHp, p7_0, p7_1, p7, sp7, okc7, okc7n, okc7z, eq9s]
    · obtain ⟨x1, x2, x3, x4, x5⟩ := key (crP k) lt (Nat.le_refl _) 1 (crP k) (.inr ⟨rfl, rfl⟩)
      clear cv key d2 hw2 odd
      generalize low1 (crP k) w = lw at *
      generalize crP k - 1 = q at *
      rw [← d1] at s1
      simp only [curvev] at *
      generalize crP k % 2 ^ 64 = pw at *
      simp only [EE,EX,Nat.reduceLeDiff,Nat.reduceEqDiff,Int.reduceEq,reduceCtorEq,Nat.reduceAdd,Nat.reduceMul,if_true,if_false,decide_true,decide_false, c0, c2, c3, k0, k3, g1, i9, o0, o1, ← hw, s0, s1, w1, w2, a1, a2, e1, x1, x2, x3, x4, x5, n0, n1, natv_noHp, p7_0, p7_1, p7, sp7, okc7, okc7n, okc7z, eq9s]
  · have e1 : decide (w < crP k % 2 ^ 64) = false := decide_eq_false h1
    have hge := low1_ge h1
    cases b
    · obtain ⟨x1, x2, x3, x4, x5⟩ := key (low1 (crP k) w) kl hge (low1 (crP k) w) 1 (.inl ⟨rfl, rfl⟩)
      clear cv key d2 hw2 odd
      generalize low1 (crP k) w = lw at *
      generalize crP k - 1 = q at *
      rw [← d1] at s1
      simp only [curvev] at *
      generalize crP k % 2 ^ 64 = pw at *
      simp only [EE,EX,Nat.reduceLeDiff,Nat.reduceEqDiff,Int.reduceEq,reduceCtorEq,Nat.reduceAdd,Nat.reduceMul,if_true,if_false,decide_true,decide_false, c0, c2, c3, k0, k3, g1, i9, o0, o1, ← hw, s0, s1, w1, w2, a1, a2, e1, x1, x2, x3, x4, x5, n0, n1, natv_noHp, p7_0, p7_1, p7, sp7, okc7, okc7n, okc7z, eq9s]
    · obtain ⟨x1, x2, x3, x4, x5⟩ := key (low1 (crP k) w) kl hge 1 (low1 (crP k) w) (.inr ⟨rfl, rfl⟩)
      clear cv key d2 hw2 odd
      generalize low1 (crP k) w = lw at *
      generalize crP k - 1 = q at *
      rw [← d1] at s1
      simp only [curvev] at *
      generalize crP k % 2 ^ 64 = pw at *
      simp only [EE,EX,Nat.reduceLeDiff,Nat.reduceEqDiff,Int.reduceEq,reduceCtorEq,Nat.reduceAdd,Nat.reduceMul,if_true,if_false,decide_true,decide_false, c0, c2, c3, k0, k3, g1, i9, o0, o1, ← hw, s0, s1, w1, w2, a1, a2, e1, x1, x2, x3, x4, x5, n0, n1, natv_noHp, p7_0, p7_1, p7, sp7, okc7, okc7n, okc7z, eq9s]

/- ## Tiny fields -/
def tOf (z : Int) : Nat := 13 + (z % 18446744073709551616).toNat % 3
theorem tOf_w (z : Int) : F (w64 (13 + w64 (((z % 2 ^ 64).toNat % 3 : Nat) : Int))) ((tOf z : Nat) : Int) := ⟨by unfold tOf w64; omega⟩
theorem tOf_cases (z : Int) : tOf z = 13 ∨ tOf z = 14 ∨ tOf z = 15 := by unfold tOf; omega
/-- How many of the numbers 1 to i are squares. -/
def rtN (p : Nat) : Nat → Nat
  | 0 => 0
  | i + 1 => rtN p i + (bif Nat.beq (pmF (1 + i) p 10 ((p - 1) / 2)) 1 then 1 else 0)
theorem rtN_le (p : Nat) : ∀ i, rtN p i ≤ i
  | 0 => Nat.le_refl _
  | i + 1 => by
    have := rtN_le p i
    rw [rtN]
    cases Nat.beq (pmF (1 + i) p 10 ((p - 1) / 2)) 1 <;> simp <;> omega
structure TinyOk (k : Nat) : Prop where
  cid : Cid k
  lt : crP k < 256
  rt : rtN (crP k) (crP k - 1) = (crP k - 1) / 2
theorem tiny_ok (z : Int) : TinyOk (tOf z) := by
  rcases tOf_cases z with h | h | h <;> rw [h]
  · exact ⟨.c13, by rw [crP_13]; omega, by kernel_rfl⟩
  · exact ⟨.c14, by rw [crP_14]; omega, by kernel_rfl⟩
  · exact ⟨.c15, by rw [crP_15]; omega, by kernel_rfl⟩
theorem dg_small {x : Nat} (h0 : x ≠ 0) (h : x < 4294967296) : dg x = [x] := by
  rw [dg_pos h0, Nat.mod_eq_of_lt h, Nat.div_eq_of_lt h, dg_zero]

theorem law_FieldTiny {z : Int} (_ : -9223372036854775808 ≤ z) (_ : z < 9223372036854775808) : Run T f_curvetlaw5_FieldTiny [.i z] [] = some (.b true, []) := by
  rw [Run_at T _ (show T f_curvetlaw5_FieldTiny = some m_curvetlaw5_FieldTiny from rfl)]
  simp only [c_curvetlaw5_FieldTiny, zero9]
  have c0 := r_awake
  have hM := Mpos
  have c2 := r_Num 0
  have k0 := eqis 0
  have kz := tOf_w z
  have tk := tiny_ok z
  generalize tOf z = k at *
  have hk := tk.cid
  have cv := cv_ok hk
  have lt := tk.lt
  have rt := tk.rt
  have big := cv.big
  have odd := cv.odd
  have pr := cv.pr
  have g1 := r_Get hk
  have n0 := curvev_noHp hk
  have n1 := fun x => num_noHp x 6
  have pos : 0 < crP k := by omega
  have e0 := dg_small (x := crP k) (by omega) (by omega)
  have i1 : ixOf (dg (crP k)).length (.i 0) = some 0 := by rw [e0]; rfl
  have i2 : part (us 32 (dg (crP k))) 0 none = some (.u 32 (crP k)) := by rw [e0]; rfl
  have i9 : ixOf 9 (.i 0) = some 0 := rfl
  have eqn : ∀ x : Nat, decide (x = x) = true := fun x => by simp
  have inv : ∀ x, x ≠ 0 → x < crP k → ∃ j, j < crP k ∧ j * x % crP k = 1 ∧ Run T f_field_Inv [.i (k : Int), natv x] [] = some (.tup [natv j, .i 0], []) := fun x h0 hx => by
    obtain ⟨j, j1, j2, j3, j4⟩ := inv_ex hk hx h0
    exact ⟨j, j1, j3, j4⟩
  have sq : ∀ x, x ≠ 0 → x < crP k → (∃ y, y < crP k ∧ y % 2 = 0 ∧ y * y % crP k = x ∧ x ^ ((crP k - 1) / 2) % crP k = 1 ∧ Run T f_field_Sqrt [.i (k : Int), natv x] [] = some (.tup [natv y, .i 0], [])) ∨ (x ^ ((crP k - 1) / 2) % crP k ≠ 1 ∧ Run T f_field_Sqrt [.i (k : Int), natv x] [] = some (.tup [natv 0, .i 503], [])) := fun x h0 hx => by
    by_cases he : x ^ ((crP k - 1) / 2) % crP k = 1
    · obtain ⟨y, y1, y2, y3, y4⟩ := r_fSqrt_ok hk hx h0 he
      exact .inl ⟨y, y1, y2, y3, he, y4⟩
    · exact .inr ⟨he, r_fSqrt_non hk hx h0 he⟩
  have rs : ∀ i, rtN (crP k) (i + 1) = rtN (crP k) i + (if (1 + i) ^ ((crP k - 1) / 2) % crP k = 1 then 1 else 0) := fun i => by
    rw [rtN, pmF_eq _ _ 10 _ (by omega)]
    by_cases he : (1 + i) ^ ((crP k - 1) / 2) % crP k = 1
    · rw [if_pos he, he]; rfl
    · rw [if_neg he]
      have : Nat.beq ((1 + i) ^ ((crP k - 1) / 2) % crP k) 1 = false := by rw [← Bool.not_eq_true, Nat.beq_eq]; exact he
      rw [this]; rfl
  have rle := rtN_le (crP k)
  simp only [curvev] at *
  obtain ⟨A, hA⟩ : ∃ A, A = num (crA k) := ⟨_, rfl⟩
  have l0 : F (crP k % 2 ^ 64) (crP k) := ⟨Nat.mod_eq_of_lt (by omega)⟩
  have pz : decide (crP k = 0) = false := decide_eq_false (by omega)
  simp only [EE,EX,Nat.reduceLeDiff,Nat.reduceEqDiff,Int.reduceEq,reduceCtorEq,Nat.reduceAdd,Nat.reduceMul,if_true,if_false,decide_true,decide_false, c0, k0, kz.eq, g1, i1, i2, l0.eq, p7_0, p7_1, p7, sp7, okc7, okc7n, okc7z]
  rw [loop_use T (fun i => ⟨[(3, .loc [.i (k : Int), num (crP k), num (crA k), num (crB k), num (crN k), num (crX k), num (crY k)]), (5, .u 64 (crP k)), (6, .u 64 (rtN (crP k) i)), (7, .u 64 (1 + i))], []⟩) (crP k - 1)
    (.exit 0, ⟨[(5, .u 64 (crP k)), (6, .u 64 ((crP k - 1) / 2))], []⟩) ?h0 (by simp) ?hs ?hn]
  · have f1 : F ((crP k + 2 ^ 64 - 1) % 2 ^ 64) (crP k - 1) := ⟨by omega⟩
    simp only [EE,EX,Nat.reduceLeDiff,Nat.reduceEqDiff,Int.reduceEq,reduceCtorEq,Nat.reduceAdd,Nat.reduceMul,if_true,if_false,decide_true,decide_false, f1.eq, eqn]
  · rfl
  · intro i hi
    obtain ⟨j, j1, j2, s1⟩ := inv (1 + i) (by omega) (by omega)
    have o1 := r_One (x := 1 + i) (by omega)
    have rsi := rs i
    have rl := rle i
    have d1 : decide (1 + i < crP k) = true := decide_eq_true (by omega)
    have f0 : F ((1 + i + 1) % 2 ^ 64) (1 + (i + 1)) := ⟨by omega⟩
    have hjx : j * (1 + i) < 65536 := Nat.lt_of_le_of_lt (Nat.mul_le_mul (show j ≤ 255 by omega) (show 1 + i ≤ 255 by omega)) (by omega)
    have f1 : F (j % 2 ^ 64) j := ⟨Nat.mod_eq_of_lt (by omega)⟩
    have f2 : F (j * (1 + i) % 2 ^ 64) (j * (1 + i)) := ⟨Nat.mod_eq_of_lt (by omega)⟩
    have w1 := w0 j
    rcases sq (1 + i) (by omega) (by omega) with ⟨y, y1, y2, y3, y4, s2⟩ | ⟨y4, s2⟩
    · rw [if_pos y4] at rsi
      rw [rsi]
      have w2 := w0 y
      have hyy : y * y < 65536 := Nat.lt_of_le_of_lt (Nat.mul_le_mul (show y ≤ 255 by omega) (show y ≤ 255 by omega)) (by omega)
      have f3 : F (y % 2 ^ 64) y := ⟨Nat.mod_eq_of_lt (by omega)⟩
      have f4 : F (y * y % 2 ^ 64) (y * y) := ⟨Nat.mod_eq_of_lt (by omega)⟩
      have f5 : F ((rtN (crP k) i + 1) % 2 ^ 64) (rtN (crP k) i + 1) := ⟨Nat.mod_eq_of_lt (by omega)⟩
      have f6 : (y &&& 1) = 0 := by rw [Nat.and_one_is_mod]; exact y2
      generalize rtN (crP k) i = rr at *
      clear inv sq rs rle rt
      simp only [EE,EX,Nat.reduceLeDiff,Nat.reduceEqDiff,Int.reduceEq,reduceCtorEq,Nat.reduceAdd,Nat.reduceMul,if_true,if_false,decide_true,decide_false, c2, k0, i9, o1, s1, s2, w1, w2, d1, f0.eq, f1.eq, f2.eq, f3.eq, f4.eq, f5.eq, f6, j2, y3, pz, eqn, natv_noHp, p7_0, p7_1, p7]
    · rw [if_neg y4, Nat.add_zero] at rsi
      rw [rsi]
      have c5 := r_Num 503
      have d5 : decide ((503 : Int) = 0) = false := rfl
      generalize rtN (crP k) i = rr at *
      clear inv sq rs rle rt
      simp only [EE,EX,Nat.reduceLeDiff,Nat.reduceEqDiff,Int.reduceEq,reduceCtorEq,Nat.reduceAdd,Nat.reduceMul,if_true,if_false,decide_true,decide_false, c2, c5, d5, k0, i9, o1, s1, s2, w1, d1, f0.eq, f1.eq, f2.eq, j2, pz, eqn, natv_noHp, p7_0, p7_1, p7]
  · have d1 : decide (1 + (crP k - 1) < crP k) = false := decide_eq_false (by omega)
    rw [rt]
    simp only [EE,EX,Nat.reduceLeDiff,Nat.reduceEqDiff,Int.reduceEq,reduceCtorEq,Nat.reduceAdd,Nat.reduceMul,if_true,if_false,decide_true,decide_false, d1]
end Mir
