/- Chapter 6, laws as the small language runs them: products in Montgomery's way of any numbers. Conditions: none. -/
import Derived.Test.YtgpmgccdenjadaaAllM
import Derived.Test.YtgpmgccdenjadaaAllN
import Derived.Test.YtgpmgccdenjadaaAllE
import Derived.Test.YtgpmgccdenjadaaAwake6
set_option linter.unusedVariables false
set_option linter.unusedSimpArgs false
set_option exponentiation.threshold 5000
set_option maxRecDepth 20000
namespace Mir

theorem num3_lit : V.vs 1 [.u 32 3] = num 3 := rfl
theorem lenM {x : Nat} (h : x < M) : (dg x).length ≤ 18 := dg_len_le 18 x (M32 ▸ h)
theorem fitM {x : Nat} (h : x ≤ M) : Fit x := Fit.of_lt (n := 19) (Nat.lt_of_le_of_lt h (by unfold M; exact Nat.pow_lt_pow_right (by omega) (by omega))) (by omega)

set_option maxHeartbeats 2000000 in
theorem law_Monts {m a b : Nat} (hm : m < M) (ha : a < M) (hb : b < M) : Run T f_curvetlaw6_Monts [natv m, natv a, natv b] [] = some (.b true, []) := by
  rw [Run_at T _ (show T f_curvetlaw6_Monts = some m_curvetlaw6_Monts from rfl)]
  simp only [c_curvetlaw6_Monts, zero9]
  have c0 := r_awake
  have hpn : eqV .ptr .nilp .nilp = some true := rfl
  have c1 := r_From hm
  have c2 := r_Num 0
  have c3 := r_Num 600
  have c4 := r_Num 601
  have c5 := r_Num 401
  have k0 := eqis 0
  have k3 := eqis 600
  have k4 := eqis 601
  have k5 := eqis 401
  have n1 := fun x => num_noHp x 6
  have lm := lenM hm
  have fm := fitM (Nat.le_of_lt hm)
  have b1 := r_refBit fm (i := 0) (by omega)
  rw [show ((0 : Nat) : Int) = 0 from rfl, Nat.pow_zero, Nat.div_one] at b1
  have i1 : [V.u 32 0].set 0 (.u 32 3) = [.u 32 3] := rfl
  have i2 : noHp 8 (.vs 1 [.u 32 3]) = true := rfl
  have b2 := r_refCmp fm (b := 3) (by unfold Fit; decide)
  rw [← num3_lit] at b2
  by_cases hbad : m % 2 = 0 ∨ m < 3
  · have d1 := r_New_no hm hbad
    by_cases h1 : m % 2 = 0
    · have e1 : decide (((m % 2 : Nat) : Int) = 0) = true := decide_eq_true (by omega)
      simp only [EE,Nat.le_refl,Nat.reduceLeDiff,List.drop_zero,us_take,us_drop,is_take,is_drop,List.take_zero,gn,if_true,if_false,Nat.reduceEqDiff,Int.reduceEq,reduceCtorEq,Nat.succ_ne_self,Nat.reduceAdd,Nat.zero_add,Nat.add_zero,Nat.reduceMul,Nat.mul_one,Nat.one_mul,Nat.zero_mul,Nat.sub_zero,decide_true,decide_false,Bool.and_self,Bool.and_true,Bool.true_and,Bool.false_and,Bool.and_false,Bool.not_true,Bool.not_false,List.length_cons,List.length_nil,us_len,is_len,tb_len,dl_len,us_set,is_set,tb_set,Nat.not_lt_zero,List.nil_append,us_rep,is_rep, hpn, c0, c1, c3, d1, b1, e1, k3, n1, natv_noHp]
    · have e1 : decide (((m % 2 : Nat) : Int) = 0) = false := decide_eq_false (by omega)
      have e2 : decide (cmpI m 3 < 0) = true := decide_eq_true (by unfold cmpI; rw [if_pos (by omega)]; omega)
      simp only [EE,Nat.le_refl,Nat.reduceLeDiff,List.drop_zero,us_take,us_drop,is_take,is_drop,List.take_zero,gn,if_true,if_false,Nat.reduceEqDiff,Int.reduceEq,reduceCtorEq,Nat.succ_ne_self,Nat.reduceAdd,Nat.zero_add,Nat.add_zero,Nat.reduceMul,Nat.mul_one,Nat.one_mul,Nat.zero_mul,Nat.sub_zero,decide_true,decide_false,Bool.and_self,Bool.and_true,Bool.true_and,Bool.false_and,Bool.and_false,Bool.not_true,Bool.not_false,List.length_cons,List.length_nil,us_len,is_len,tb_len,dl_len,us_set,is_set,tb_set,Nat.not_lt_zero,List.nil_append,us_rep,is_rep, hpn, c0, c1, c3, d1, b1, e1, b2, e2, i1, i2, k3, n1, natv_noHp]
  · have ho : m % 2 = 1 := by omega
    have h3 : 3 ≤ m := by omega
    have h0 : m ≠ 0 := by omega
    have hmp : 0 < m := by omega
    have d1 := r_New hm ho h3
    have e1 : decide (((m % 2 : Nat) : Int) = 0) = false := decide_eq_false (by omega)
    have e2 : decide (cmpI m 3 < 0) = false := decide_eq_false (by unfold cmpI; rw [if_neg (by omega)]; split <;> omega)
    have b3 := r_Bits fm
    have hbl : bl m ≤ 576 := bl_le_iff.2 hm
    obtain ⟨bb, hbb⟩ : ∃ z : Int, z = (bl m : Int) + 63 := ⟨_, rfl⟩
    have w1 : F (w64 ((bl m : Int) + 63)) bb := ⟨by rw [hbb]; unfold w64; omega⟩
    have hn9 := nw_le m
    have w2 : F (w64 (Int.tdiv bb 64)) (nw m : Int) := ⟨by rw [hbb, words_of hm h0]; unfold w64; omega⟩
    have f1 := r_From ha
    have f2 := r_From hb
    have g1 := r_Words (m := m)
    have la := lenM ha
    have lb := lenM hb
    have fa := fitM (Nat.le_of_lt ha)
    have fb := fitM (Nat.le_of_lt hb)
    have g2 := r_refCmp fa fm
    have g3 := r_refCmp fb fm
    have hp : eqV .ptr (mont m) .nilp = some false := rfl
    have mn := mont_noHp m 6
    have nn : decide ((nw m : Int) = (nw m : Int)) = true := by simp
    by_cases ham : m ≤ a
    · have d2 := r_To_no hm ho h3 ham ha
      have d3 := r_MFrom_no hm ho h3 ham ha
      have d4 := r_MMul_no (b := b) hm ho h3 (.inl ham) ha hb
      have d5 := r_MInv_no hm ho h3 ham ha
      have e3 : decide (0 ≤ cmpI a m) = true := decide_eq_true (by unfold cmpI; rw [if_neg (by omega)]; split <;> omega)
      simp only [mont] at d1 d2 d3 d4 d5 g1 hp mn
      obtain ⟨X, hX⟩ : ∃ X, X = monL m (nw m) (lessV m) (monR m % m * (monR m % m) % m) := ⟨_, rfl⟩
      rw [← hX] at d1 d2 d3 d4 d5 g1 hp mn
      simp only [EE,Nat.le_refl,Nat.reduceLeDiff,List.drop_zero,us_take,us_drop,is_take,is_drop,List.take_zero,gn,if_true,if_false,Nat.reduceEqDiff,Int.reduceEq,reduceCtorEq,Nat.succ_ne_self,Nat.reduceAdd,Nat.zero_add,Nat.add_zero,Nat.reduceMul,Nat.mul_one,Nat.one_mul,Nat.zero_mul,Nat.sub_zero,decide_true,decide_false,Bool.and_self,Bool.and_true,Bool.true_and,Bool.false_and,Bool.and_false,Bool.not_true,Bool.not_false,List.length_cons,List.length_nil,us_len,is_len,tb_len,dl_len,us_set,is_set,tb_set,Nat.not_lt_zero,List.nil_append,us_rep,is_rep, c0, c1, c2, c4, d1, d2, d3, d4, d5, b1, b2, b3, e1, e2, e3, i1, i2, w1.eq, w2.eq, f1, f2, g1, g2, hp, mn, nn, k0, k4, n1, natv_noHp, eq9s, Bool.not_true, Bool.not_false]
    · have ham' : a < m := by omega
      have e3 : decide (0 ≤ cmpI a m) = false := decide_eq_false (by unfold cmpI; rw [if_pos ham']; omega)
      obtain ⟨i2', j2⟩ := monI_ok ho h3
      have d2 := r_To hm ho h3 ham'
      have d3 := r_MFrom hm ho h3 ham'
      -- R modulo m, its inverse
      obtain ⟨n64, hn64⟩ : ∃ z, z = 64 * nw m := ⟨_, rfl⟩
      have w3 : F (w64 (64 * (nw m : Int))) (n64 : Int) := ⟨by rw [hn64]; unfold w64; omega⟩
      have s1 := r_refShl (a := 1) (k := n64) (by unfold Fit; decide) (by omega)
      rw [Nat.one_mul, ← num1_lit] at s1
      have i3 : [V.u 32 0].set 0 (.u 32 1) = [.u 32 1] := rfl
      have i4 : noHp 8 (.vs 1 [.u 32 1]) = true := rfl
      have hRl : (dg (2 ^ n64)).length ≤ 19 := dg_len_le _ _ (Nat.pow_lt_pow_right (by omega) (by omega))
      have s2 := r_refMod (a := 2 ^ n64) (m := m) (by omega) (by omega) h0
      have hR : monR m = 2 ^ n64 := by rw [hn64]
      rw [hR] at j2 d2
      have hrm : 2 ^ n64 % m < m := Nat.mod_lt _ hmp
      have hg : Nat.gcd m (2 ^ n64 % m) = 1 := by
        have := odd_gcd (k := n64) ho
        rw [Nat.gcd_comm, ← Nat.gcd_rec]; exact this
      have lr : (dg (2 ^ n64 % m)).length ≤ 18 := lenM (by omega)
      obtain ⟨s, hs1, hs2, s3⟩ := r_refInverse (a := 2 ^ n64 % m) (m := m) (by omega) (by omega) (by omega) hg
      have hsI : s = monI m := inv_one hs1 i2' (by rw [← Nat.mul_mod_mod]; exact hs2) j2
      subst hsI
      have lI : (dg (monI m)).length ≤ 18 := lenM (by omega)
      have s4 := r_refMulMod (a := a) (b := 2 ^ n64 % m) (m := m) (by omega) (by omega) (by omega) h0
      rw [Nat.mul_mod_mod] at s4
      have s5 := r_refMulMod (a := a) (b := monI m) (m := m) (by omega) (by omega) (by omega) h0
      have s6 := r_Nat (fitM (x := a * 2 ^ n64 % m) (by have := Nat.mod_lt (a * 2 ^ n64) hmp; omega))
      have s7 := r_Nat (fitM (x := a * monI m % m) (by have := Nat.mod_lt (a * monI m) hmp; omega))
      -- the inverse that is asked for
      have inv : (∃ i, Nat.gcd m a = 1 ∧ i < m ∧ Run T f_mont_Mont_Inv [mont m, natv a] [] = some (.tup [natv (i * monR m * monR m % m), .i 0], []) ∧ Run T f_curvetref1_Inverse [num a, num m] [] = some (.tup [num i, .b true], [])) ∨
          (Run T f_mont_Mont_Inv [mont m, natv a] [] = some (.tup [natv 0, .i 401], []) ∧ Run T f_curvetref1_Inverse [num a, num m] [] = some (.tup [num 0, .b false], [])) := by
        by_cases hga : Nat.gcd m a = 1
        · obtain ⟨i, hi1, hi2, q1⟩ := r_MInv hm ho h3 ham' hga
          obtain ⟨j, hj1, hj2, q2⟩ := r_refInverse (a := a) (m := m) (by omega) (by omega) (by omega) hga
          have hij := inv_one hi1 hj1 hi2 hj2
          subst hij
          exact .inl ⟨i, hga, hi1, q1, q2⟩
        · exact .inr ⟨r_MInv_none hm ho h3 ham' hga, r_refInverse_none (by omega) (by omega) (.inr hga)⟩
      by_cases hbm : m ≤ b
      · have d4 := r_MMul_no (a := a) hm ho h3 (.inr hbm) ha hb
        have e4 : decide (0 ≤ cmpI b m) = true := decide_eq_true (by unfold cmpI; rw [if_neg (by omega)]; split <;> omega)
        obtain ⟨vi, ei, d5⟩ : ∃ (vi : Nat) (ei : Int), Run T f_mont_Mont_Inv [mont m, natv a] [] = some (.tup [natv vi, .i ei], []) := by
          rcases inv with ⟨i, _, _, q1, _⟩ | ⟨q1, _⟩
          · exact ⟨_, _, q1⟩
          · exact ⟨_, _, q1⟩
        clear inv
        obtain ⟨r, hr⟩ : ∃ r, r = 2 ^ n64 % m := ⟨_, rfl⟩
        obtain ⟨I, hI⟩ : ∃ r, r = monI m := ⟨_, rfl⟩
        obtain ⟨x1, hx1⟩ : ∃ z, z = a * 2 ^ n64 % m := ⟨_, rfl⟩
        obtain ⟨x2, hx2⟩ : ∃ z, z = a * monI m % m := ⟨_, rfl⟩
        rw [← hx1] at d2 s4 s6
        rw [← hx2] at d3 s5 s7
        rw [← hr] at s2 s3 s4
        rw [← hI] at s3 s5
        obtain ⟨R, hRR⟩ : ∃ z, z = 2 ^ n64 := ⟨_, rfl⟩
        rw [← hRR] at s1 s2
        simp only [mont] at d1 d2 d3 d4 d5 g1 hp mn
        obtain ⟨X, hX⟩ : ∃ X, X = monL m (nw m) (lessV m) (monR m % m * (monR m % m) % m) := ⟨_, rfl⟩
        rw [← hX] at d1 d2 d3 d4 d5 g1 hp mn
        simp only [EE,Nat.le_refl,Nat.reduceLeDiff,List.drop_zero,us_take,us_drop,is_take,is_drop,List.take_zero,gn,if_true,if_false,Nat.reduceEqDiff,Int.reduceEq,reduceCtorEq,Nat.succ_ne_self,Nat.reduceAdd,Nat.zero_add,Nat.add_zero,Nat.reduceMul,Nat.mul_one,Nat.one_mul,Nat.zero_mul,Nat.sub_zero,decide_true,decide_false,Bool.and_self,Bool.and_true,Bool.true_and,Bool.false_and,Bool.and_false,Bool.not_true,Bool.not_false,List.length_cons,List.length_nil,us_len,is_len,tb_len,dl_len,us_set,is_set,tb_set,Nat.not_lt_zero,List.nil_append,us_rep,is_rep, c0, c1, c2, c4, d1, d2, d3, d4, d5, b1, b2, b3, e1, e2, e3, e4, i1, i2, i3, i4, w1.eq, w2.eq, w3.eq, f1, f2, g1, g2, g3, hp, mn, nn, k0, k4, n1, natv_noHp, eq9s, s1, s2, s3, s4, s5, s6, s7, Bool.not_true, Bool.not_false]
      · have hbm' : b < m := by omega
        have d4 := r_MMul hm ho h3 ham' hbm'
        have e4 : decide (0 ≤ cmpI b m) = false := decide_eq_false (by unfold cmpI; rw [if_pos hbm']; omega)
        have lab : (dg (a * b % m)).length ≤ 18 := lenM (by have := Nat.mod_lt (a * b) hmp; omega)
        have t1 := r_refMulMod (a := a) (b := b) (m := m) (by omega) (by omega) (by omega) h0
        have t2 := r_refMulMod (a := a * b % m) (b := monI m) (m := m) (by omega) (by omega) (by omega) h0
        rw [Nat.mod_mul_mod] at t2
        have t3 := r_Nat (fitM (x := a * b * monI m % m) (by have := Nat.mod_lt (a * b * monI m) hmp; omega))
        have t4 : ∀ i, i < m → Run T f_curvetref1_MulMod [num i, num (2 ^ n64 % m), num m] [] = some (num (i * 2 ^ n64 % m), []) := fun i hi => by
          have li := lenM (Nat.lt_trans hi hm)
          have := r_refMulMod (a := i) (b := 2 ^ n64 % m) (m := m) (by omega) (by omega) (by omega) h0
          rw [Nat.mul_mod_mod] at this
          exact this
        have t5 : ∀ i, i < m → Run T f_curvetref1_MulMod [num (i * 2 ^ n64 % m), num (2 ^ n64 % m), num m] [] = some (num (i * 2 ^ n64 * 2 ^ n64 % m), []) := fun i hi => by
          have := t4 (i * 2 ^ n64 % m) (Nat.mod_lt _ hmp)
          rw [Nat.mod_mul_mod] at this
          exact this
        have t6 : ∀ y, Run T f_curvetref1_Nat [num (y % m)] [] = some (natv (y % m), []) := fun y => r_Nat (fitM (by have := Nat.mod_lt y hmp; omega))
        rw [hR] at inv
        rcases inv with ⟨i, hga, hi1, q1, q2⟩ | ⟨q1, q2⟩
        · have u1 := t4 i hi1
          have u2 := t5 i hi1
          have u3 := t6 (i * 2 ^ n64 * 2 ^ n64)
          clear t4 t5 t6
          obtain ⟨r, hr⟩ : ∃ r, r = 2 ^ n64 % m := ⟨_, rfl⟩
          obtain ⟨I, hI⟩ : ∃ r, r = monI m := ⟨_, rfl⟩
          obtain ⟨x1, hx1⟩ : ∃ z, z = a * 2 ^ n64 % m := ⟨_, rfl⟩
          obtain ⟨x2, hx2⟩ : ∃ z, z = a * monI m % m := ⟨_, rfl⟩
          obtain ⟨x3, hx3⟩ : ∃ z, z = a * b * monI m % m := ⟨_, rfl⟩
          obtain ⟨x4, hx4⟩ : ∃ z, z = a * b % m := ⟨_, rfl⟩
          obtain ⟨x5, hx5⟩ : ∃ z, z = i * 2 ^ n64 % m := ⟨_, rfl⟩
          obtain ⟨x6, hx6⟩ : ∃ z, z = i * 2 ^ n64 * 2 ^ n64 % m := ⟨_, rfl⟩
          rw [← hx6] at u2 u3 q1
          rw [← hx5] at u1 u2
          rw [← hx1] at d2 s4 s6
          rw [← hx2] at d3 s5 s7
          rw [← hx3] at d4 t2 t3
          rw [← hx4] at t1 t2
          rw [← hr] at s2 s3 s4 u1 u2
          rw [← hI] at s3 s5 t2
          obtain ⟨R, hRR⟩ : ∃ z, z = 2 ^ n64 := ⟨_, rfl⟩
          rw [← hRR] at s1 s2
          simp only [mont] at d1 d2 d3 d4 q1 g1 hp mn
          obtain ⟨X, hX⟩ : ∃ X, X = monL m (nw m) (lessV m) (monR m % m * (monR m % m) % m) := ⟨_, rfl⟩
          rw [← hX] at d1 d2 d3 d4 q1 g1 hp mn
          simp only [EE,Nat.le_refl,Nat.reduceLeDiff,List.drop_zero,us_take,us_drop,is_take,is_drop,List.take_zero,gn,if_true,if_false,Nat.reduceEqDiff,Int.reduceEq,reduceCtorEq,Nat.succ_ne_self,Nat.reduceAdd,Nat.zero_add,Nat.add_zero,Nat.reduceMul,Nat.mul_one,Nat.one_mul,Nat.zero_mul,Nat.sub_zero,decide_true,decide_false,Bool.and_self,Bool.and_true,Bool.true_and,Bool.false_and,Bool.and_false,Bool.not_true,Bool.not_false,List.length_cons,List.length_nil,us_len,is_len,tb_len,dl_len,us_set,is_set,tb_set,Nat.not_lt_zero,List.nil_append,us_rep,is_rep, c0, c1, c2, c4, d1, d2, d3, d4, q1, q2, b1, b2, b3, e1, e2, e3, e4, i1, i2, i3, i4, w1.eq, w2.eq, w3.eq, f1, f2, g1, g2, g3, hp, mn, nn, k0, k4, n1, natv_noHp, eq9s, s1, s2, s3, s4, s5, s6, s7, t1, t2, t3, u1, u2, u3, Bool.not_true, Bool.not_false]
        · clear t4 t5 t6
          obtain ⟨r, hr⟩ : ∃ r, r = 2 ^ n64 % m := ⟨_, rfl⟩
          obtain ⟨I, hI⟩ : ∃ r, r = monI m := ⟨_, rfl⟩
          obtain ⟨x1, hx1⟩ : ∃ z, z = a * 2 ^ n64 % m := ⟨_, rfl⟩
          obtain ⟨x2, hx2⟩ : ∃ z, z = a * monI m % m := ⟨_, rfl⟩
          obtain ⟨x3, hx3⟩ : ∃ z, z = a * b * monI m % m := ⟨_, rfl⟩
          obtain ⟨x4, hx4⟩ : ∃ z, z = a * b % m := ⟨_, rfl⟩
          rw [← hx1] at d2 s4 s6
          rw [← hx2] at d3 s5 s7
          rw [← hx3] at d4 t2 t3
          rw [← hx4] at t1 t2
          rw [← hr] at s2 s3 s4
          rw [← hI] at s3 s5 t2
          obtain ⟨R, hRR⟩ : ∃ z, z = 2 ^ n64 := ⟨_, rfl⟩
          rw [← hRR] at s1 s2
          simp only [mont] at d1 d2 d3 d4 q1 g1 hp mn
          obtain ⟨X, hX⟩ : ∃ X, X = monL m (nw m) (lessV m) (monR m % m * (monR m % m) % m) := ⟨_, rfl⟩
          rw [← hX] at d1 d2 d3 d4 q1 g1 hp mn
          simp only [EE,Nat.le_refl,Nat.reduceLeDiff,List.drop_zero,us_take,us_drop,is_take,is_drop,List.take_zero,gn,if_true,if_false,Nat.reduceEqDiff,Int.reduceEq,reduceCtorEq,Nat.succ_ne_self,Nat.reduceAdd,Nat.zero_add,Nat.add_zero,Nat.reduceMul,Nat.mul_one,Nat.one_mul,Nat.zero_mul,Nat.sub_zero,decide_true,decide_false,Bool.and_self,Bool.and_true,Bool.true_and,Bool.false_and,Bool.and_false,Bool.not_true,Bool.not_false,List.length_cons,List.length_nil,us_len,is_len,tb_len,dl_len,us_set,is_set,tb_set,Nat.not_lt_zero,List.nil_append,us_rep,is_rep, c0, c1, c2, c4, c5, d1, d2, d3, d4, q1, q2, b1, b2, b3, e1, e2, e3, e4, i1, i2, i3, i4, w1.eq, w2.eq, w3.eq, f1, f2, g1, g2, g3, hp, mn, nn, k0, k4, k5, n1, natv_noHp, eq9s, s1, s2, s3, s4, s5, s6, s7, t1, t2, t3, Bool.not_true, Bool.not_false]

end Mir
