/- Chapter 22, laws as the small language runs them: great numbers, loose forms. Conditions: none. -/
import Derived.Test.YtphinknjjdfgeaaDer1
set_option linter.unusedVariables false
set_option linter.unusedSimpArgs false
set_option exponentiation.threshold 5000
set_option maxRecDepth 20000
namespace Mir

theorem set_word8 {r t w : Nat} (hr : r < M) (hw : w < 2 ^ 64) : (us 64 (dl 64 18 (r + M * t))).set 8 (.u 64 w) = us 64 (dl 64 18 ((r % 2 ^ 512 + 2 ^ 512 * w) + M * t)) ∧ r % 2 ^ 512 + 2 ^ 512 * w < M := by
  have hM : M = 2 ^ 512 * 2 ^ 64 := by unfold M; rw [← Nat.pow_add]
  have h512 : r % 2 ^ 512 < 2 ^ 512 := Nat.mod_lt _ (Nat.two_pow_pos 512)
  have hlt : r % 2 ^ 512 + 2 ^ 512 * w < M := by
    have h1 : 2 ^ 512 * (w + 1) ≤ 2 ^ 512 * 2 ^ 64 := Nat.mul_le_mul_left _ hw
    rw [Nat.mul_succ] at h1
    rw [hM]; omega
  refine ⟨?_, hlt⟩
  rw [us_set]
  congr 1
  rw [dl, tb_set, dl]
  refine tb_congr fun j hj => ?_
  have hup : ∀ z, z < M → 9 ≤ j → (z + M * t) / 2 ^ (64 * j) % 2 ^ 64 = t / 2 ^ (64 * (j - 9)) % 2 ^ 64 := fun z hz h => by
    have e2 : 64 * j = 576 + 64 * (j - 9) := by omega
    have hM0 : 0 < M := Nat.two_pow_pos _
    have e3 : 2 ^ (576 + 64 * (j - 9)) = M * 2 ^ (64 * (j - 9)) := by rw [Nat.pow_add]; rfl
    rw [e2, e3, ← Nat.div_div_eq_div_mul, Nat.add_mul_div_left z t hM0, Nat.div_eq_of_lt hz, Nat.zero_add]
  have hdown : ∀ z, j < 9 → (z + M * t) / 2 ^ (64 * j) % 2 ^ 64 = z / 2 ^ (64 * j) % 2 ^ 64 := fun z h => by
    have e2 : M = 2 ^ (64 * j) * (2 ^ 64 * 2 ^ (64 * (8 - j))) := by rw [M64, ← Nat.pow_add, ← Nat.pow_add]; congr 1; omega
    rw [e2, Nat.mul_assoc, Nat.mul_assoc, Nat.add_mul_div_left _ _ (Nat.two_pow_pos _), Nat.add_mul_mod_self_left]
  by_cases h8 : j = 8
  · rw [if_pos h8, hdown _ (by omega), h8, show 64 * 8 = 512 from rfl, Nat.add_mul_div_left _ _ (Nat.two_pow_pos 512), Nat.div_eq_of_lt h512, Nat.zero_add, Nat.mod_eq_of_lt hw]
  · rw [if_neg h8]
    by_cases h9 : 9 ≤ j
    · rw [hup r hr h9, hup _ hlt h9]
    · rw [hdown _ (by omega), hdown _ (by omega)]
      have e : 2 ^ 512 = 2 ^ (64 * j) * (2 ^ 64 * 2 ^ (64 * (7 - j))) := by rw [← Nat.pow_add, ← Nat.pow_add]; congr 1; omega
      rw [e, Nat.mul_assoc, Nat.mul_assoc, Nat.add_mul_div_left _ _ (Nat.two_pow_pos _), Nat.add_mul_mod_self_left, Nat.mod_mul_right_div_self, Nat.mod_mul_right_mod]

theorem part18 (z : Nat) : part (us 64 (dl 64 18 z)) 8 none = some (.u 64 (z / 2 ^ (64 * 8) % 2 ^ 64)) := by
  simp only [part]; exact us_get (dl_get (by omega))

theorem law_DerGreat {a b : Nat} (ha : a < M) (hb : b < M) (high : Bool) : Run T f_curvetlaw22_DerGreat [natv a, natv b, .b high] [] = some (.b true, []) := by
  rw [Run_at T _ (show T f_curvetlaw22_DerGreat = some m_curvetlaw22_DerGreat from rfl)]
  simp only [c_curvetlaw22_DerGreat, zero18]
  have c0 := r_awake
  have hM : 0 < M := Nat.two_pow_pos _
  -- the number
  have p1 := sig_put1 ha
  have p2 := sig_put2 (t := b) ha
  have q1 : okc 9 (us 64 (dl 64 9 a)) 0 18 = true := by rw [Ki, dl_len]; rfl
  have q2 : okc 9 (us 64 (dl 64 9 b)) 9 18 = true := by rw [Ki, dl_len]; rfl
  obtain ⟨w0, hw0⟩ : ∃ w, w = (a + M * b) / 2 ^ (64 * 8) % 2 ^ 64 := ⟨_, rfl⟩
  have hw0l : w0 < 2 ^ 64 := by rw [hw0]; exact Nat.mod_lt _ (Nat.two_pow_pos 64)
  have p3 := part18 (a + M * b)
  rw [← hw0] at p3
  obtain ⟨w1, hw1⟩ : ∃ w, w = (w0 ||| 9223372036854775808) := ⟨_, rfl⟩
  have hw1l : w1 < 2 ^ 64 := by rw [hw1]; exact Nat.or_lt_two_pow hw0l (by omega)
  have hw1g : 9223372036854775808 ≤ w1 := by rw [hw1]; exact Nat.right_le_or
  obtain ⟨p4, p5⟩ := set_word8 (t := b) ha hw1l
  obtain ⟨r1, hr1⟩ : ∃ r, r = a % 2 ^ 512 + 2 ^ 512 * w1 := ⟨_, rfl⟩
  rw [← hr1] at p4 p5
  have p6 := part18 (r1 + M * b)
  obtain ⟨w2, hw2⟩ : ∃ w, w = (r1 + M * b) / 2 ^ (64 * 8) % 2 ^ 64 := ⟨_, rfl⟩
  rw [← hw2] at p6
  have hw2l : w2 < 2 ^ 64 := by rw [hw2]; exact Nat.mod_lt _ (Nat.two_pow_pos 64)
  obtain ⟨w3, hw3⟩ : ∃ w, w = (w2 &&& 9223372036854775807) := ⟨_, rfl⟩
  have hw3l : w3 < 2 ^ 64 := by
    have : w2 &&& 9223372036854775807 ≤ w2 := Nat.and_le_left
    rw [hw3]; omega
  obtain ⟨w4, hw4⟩ : ∃ w, w = (w3 ||| 4611686018427387904) := ⟨_, rfl⟩
  have hw4l : w4 < 2 ^ 64 := by rw [hw4]; exact Nat.or_lt_two_pow hw3l (by omega)
  have hw4g : 4611686018427387904 ≤ w4 := by rw [hw4]; exact Nat.right_le_or
  obtain ⟨p7, p8⟩ := set_word8 (t := b) p5 hw4l
  obtain ⟨r2, hr2⟩ : ∃ r, r = r1 % 2 ^ 512 + 2 ^ 512 * w4 := ⟨_, rfl⟩
  rw [← hr2] at p7 p8
  have e8 := ixOf_nat (n := 9) (k := 8) (by omega)
  have e8' : ixOf 9 (.i 8) = some 8 := e8
  -- what is written and read
  have wr : ∀ r, r < M → 2 ^ 512 * 4611686018427387904 ≤ r → ∃ S : List Nat, Run T f_der_Put [widev (r + M * b)] [] = some (.s S, []) ∧ Run T f_der_Get [.s S] [] = some (.tup [widev (r + M * b), .i 0], []) ∧ decide (S.length < 9223372036854775808) = true ∧ decide ((72 : Int) < (S.length : Int)) = true ∧ decide ((73 : Int) < (S.length : Int)) = true := by
    intro r hr hg
    have hz : r + M * b < M * M := by
      have : M * (b + 1) ≤ M * M := Nat.mul_le_mul_left _ hb
      rw [Nat.mul_succ] at this
      omega
    have c1 := r_Put hz
    rw [Nat.add_mul_mod_self_left, Nat.mod_eq_of_lt hr, Nat.add_mul_div_left _ _ hM, Nat.div_eq_of_lt hr, Nat.zero_add] at c1
    obtain ⟨a1, a2, a3, a4⟩ := pPut_len hr hb
    have c2 := r_Get (s := pPut r b) (by omega) (pPut_by hr hb)
    rw [pGet_pPut hr hb] at c2
    obtain ⟨l1, l2, l3, l4, l5⟩ := body_len hr hb
    have hbl : 575 ≤ bl r := by
      have : ¬ bl r ≤ 574 := fun h => by
        have h1 := bl_le_iff.1 h
        have h2 : (2:Nat) ^ 574 = 2 ^ 512 * 4611686018427387904 := by rw [show (4611686018427387904 : Nat) = 2 ^ 62 from rfl, ← Nat.pow_add]
        omega
      omega
    rw [pNum_bl hr] at l1
    have hlen : 79 ≤ (pPut r b).length := by
      have := pField_len 48 (pField 2 (pNum r) ++ pField 2 (pNum b))
      have e : pPut r b = pField 48 (pField 2 (pNum r) ++ pField 2 (pNum b)) := rfl
      rw [e, this, l1]
      split <;> omega
    exact ⟨_, c1, c2, decide_eq_true (by omega), decide_eq_true (by omega), decide_eq_true (by omega)⟩
  -- one of more
  have s1 : ∀ (H : Heap), b2sV true H (.vs 1 [.u 8 73]) = some (.s [73]) := fun H => b2s_vs (l := [73]) rfl
  have s2 : binV .add (.s [2]) (.s [73]) = some (.s [2, 73]) := s_add _ _ (by simp)
  have s3 : binV .add (.s [2, 73]) (.s [1]) = some (.s [2, 73, 1]) := s_add _ _ (by simp)
  have s4 : ixOf 140737488355329 (.i 72) = some 72 := by rfl
  have s5 : ixOf (72 + 1) (.i 72) = some 72 := by rfl
  have s6 : roomOk 72 1 = true := by decide
  obtain ⟨Z, hZ⟩ : ∃ Z, Z = List.replicate 72 0 := ⟨_, rfl⟩
  have s7 : b2sV false [some (us 8 (List.replicate 72 0))] (.hs 1 0 0 72 72) = some (.s Z) := by rw [hZ]; exact b2s_hs rfl (by simp)
  obtain ⟨A, hA⟩ : ∃ A, A = [2, 73, 1] ++ Z := ⟨_, rfl⟩
  have s8 : binV .add (.s [2, 73, 1]) (.s Z) = some (.s A) := by rw [hA]; exact s_add _ _ (by rw [hZ]; simp)
  obtain ⟨B, hB⟩ : ∃ B, B = A ++ [2, 1, 1] := ⟨_, rfl⟩
  have hBl : B.length = 78 := by rw [hB, hA, hZ]; rfl
  have s9 : binV .add (.s A) (.s [2, 1, 1]) = some (.s B) := by rw [hB]; exact s_add _ _ (by rw [hA, hZ]; simp)
  have s10 : decide (B.length < 9223372036854775808) = true := by rw [hBl]; rfl
  have s11 : ((((B.length : Nat) : Int)) % 2 ^ 8).toNat = 78 := by rw [hBl]; rfl
  have s12 : ∀ (H : Heap), b2sV true H (.vs 1 [.u 8 78]) = some (.s [78]) := fun H => b2s_vs (l := [78]) rfl
  have s13 : binV .add (.s [48]) (.s [78]) = some (.s [48, 78]) := s_add _ _ (by simp)
  obtain ⟨C, hC⟩ : ∃ C, C = [48, 78] ++ B := ⟨_, rfl⟩
  have s14 : binV .add (.s [48, 78]) (.s B) = some (.s C) := by rw [hC]; exact s_add _ _ (by rw [hBl]; simp)
  have hCg : pGet C = (0, 2200) := by rw [hC, hB, hA, hZ]; decide +kernel
  have hCb : By C := by
    intro x hx
    rw [hC, hB, hA, hZ] at hx
    simp at hx
    omega
  have c9 := r_Get (s := C) (by rw [hC, List.length_append, hBl]; simp) hCb
  rw [hCg] at c9
  have e1 : ((2200 : Nat) : Int) = 2200 := rfl
  simp only [e1] at c9
  have q3 : okc 1 [V.u 8 73] 0 1 = true := by simp [okc, cellV]
  have q4 : okc 1 [V.u 8 78] 0 1 = true := by simp [okc, cellV]
  have c5 := r_Num 0
  have c6 := r_Num 2200
  have k1 := eqis 0
  have k2 := eqis 2200
  have q5 : (8 + 1 ≤ 18) = True := by simp
  cases high with
  | true =>
    obtain ⟨S, d1, d2, d3, d4, d5⟩ := wr r1 p5 (by rw [hr1]; omega)
    obtain ⟨z0, hz0⟩ : ∃ z, z = a + M * b := ⟨_, rfl⟩
    obtain ⟨z1, hz1⟩ : ∃ z, z = r1 + M * b := ⟨_, rfl⟩
    rw [← hz0] at p2 p3 p4
    rw [← hz1] at p4 d1 d2
    simp only [Qa,Qb,Qc,Qd,Qe,Qf,Qg,Qh,Qi,Qj,Qk,Ql,Qm,Qn,Qo,Qp,Qq,Qr,Qs,Qt,Qu,Qv,Qw,Qx,Qy,Qz,QA,QB,QC,QD,QE,QF,QG,QH,QI,QJ,QK,QL,QM,QN,QO,QP,QQ,QR,QS,QT,QU,QV,QW,QX,QY,QZ,Q0,Q1,Q2,Q3,Q4,Q5,Q6,Q7,Q8,Q9,Xa,Xb,Xc,Xd,Xe,Xf,Xg,Xh,Xi,Xj,Xk,Xl,Xm,Xn,Xo,Xp,Xq,Xr,Xs,Xt,Xu,Xv,Xw,Xx,Xy,Xz,XA,XB,XC,XD,XE,XF,XG,XH,XI,XJ,XK,XL,XM,XN,XO,XP,XQ,XR,XS,XT,XU,XV,XW,XX,XY,XZ,X0,X1,X2,X3,X4,X5,X6,X7,X8,X9,Ya,Yb,Yc,Yd,Ye,Yf,Yg,Yh,Yi,Yj,Yk,Yl,Ym,Yn,Yo,Yp,Yq,Yr,Ys,Yt,Yu,Yv,Yw,Yx,Yy,Yz,YA,YB,YC,YD,YE,YF,YG,YH,YI,YJ,YK,YL,YM,YN,YO,YP,YQ,YR,YS,YT,YU,YV,YW,YX,YY,YZ,Y0,Y1,Y2,Y3,Y4,Y5,Y6,Y7,Y8,Y9,Za,Zb,Zc,Zd,Ze,Zf,Zg,Zh,Zi,Zj,Zk,Zl,Zm,Zn,Zo,Zp,Zq,Zr,Zs,Zt,Zu,Zv,Zw,Zx,Zy,Zz,ZA,ZB,ZC,ZD,ZE,ZF,ZG,ZH,ZI,ZJ,ZK,ZL,ZM,ZN,ZO,ZP,ZQ,ZR,ZS,ZT,ZU,ZV,ZW,ZX,ZY,ZZ,Z0,Z1,Z2,Z3,Z4,Z5,Z6,Z7,Z8,Z9,Ja,Jb,Jc,Jd,Je,Jf,Jg,Jh,Ji,Jj,Jk,Jl,Jm,Jn,Jo,Jp,Jq,Jr,Js,Jt,Ju,Jv,Jw,Jx,Jy,Jz,JA,JB,JC,JD,JE,JF,JG,JH,JI,JJ,JK,JL,JM,JN,JO,JP,JQ,JR,JS,JT,JU,JV,JW,JX,JY,JZ,J0,J1,J2,J3,J4,J5,J6,J7,J8,J9,Ka,Kb,Kc,Kd,Ke,Kf,Kg,Kh,Ki,Kj,Kk,Kl,Km,Kn,Ko,Kp,Kq,Kr,Ks,Kt,Ku,Kv,Kw,Kx,Ky,Kz,KA,KB,KC,KD,KE,KF,KG,KH,KI,KJ,KK,KL,KM,KN,KO,KP,KQ,KR,KS,KT,KU,KV,KW,KX,KY,KZ,K0,K1,K2,K3,K4,K5,K6,K7,K8,K9,Ga,Gb,Gc,Gd,Ge,Gf,Gg,Gh,Gi,Gj,Gk,Gl,Gm,Gn,Gp,Gq,Gr,Gs,Gt,Gu,Gv,Gw,Gx,Gy,Gz,GA,GB,GC,GD,GE,GF,GG,GH,GI,GJ,GK,GL,GM,GN,GO,GP,GQ,GR,GS,GT,Nat.le_refl,Nat.reduceLeDiff,List.drop_zero,us_take,us_drop,is_take,is_drop,List.take_zero,gn,if_true,if_false,Nat.reduceEqDiff,Int.reduceEq,reduceCtorEq,Nat.succ_ne_self,Nat.reduceAdd,Nat.zero_add,Nat.add_zero,Nat.reduceMul,Nat.mul_one,Nat.one_mul,Nat.zero_mul,Nat.sub_zero,decide_true,decide_false,Bool.and_self,Bool.and_true,Bool.true_and,Bool.false_and,Bool.and_false,Bool.not_true,Bool.not_false,List.length_cons,List.length_nil,us_len,is_len,tb_len,dl_len,us_set,is_set,tb_set,Nat.not_lt_zero,List.nil_append,us_rep,is_rep, List.set_cons_zero, c0, p1, p2, p3, p4, q1, q2, ← hw1, e8', d1, d2, d3, d5, s1, s2, s3, s4, s5, s6, s7, s8, s9, s10, s11, s12, s13, s14, c9, c5, c6, k1, k2, q3, q4, q5, eq18s, widev_noHp]
  | false =>
    obtain ⟨S, d1, d2, d3, d4, d5⟩ := wr r2 p8 (by rw [hr2]; omega)
    obtain ⟨z0, hz0⟩ : ∃ z, z = a + M * b := ⟨_, rfl⟩
    obtain ⟨z1, hz1⟩ : ∃ z, z = r1 + M * b := ⟨_, rfl⟩
    obtain ⟨z2, hz2⟩ : ∃ z, z = r2 + M * b := ⟨_, rfl⟩
    rw [← hz0] at p2 p3 p4
    rw [← hz1] at p4 p6 p7
    rw [← hz2] at p7 d1 d2
    simp only [Qa,Qb,Qc,Qd,Qe,Qf,Qg,Qh,Qi,Qj,Qk,Ql,Qm,Qn,Qo,Qp,Qq,Qr,Qs,Qt,Qu,Qv,Qw,Qx,Qy,Qz,QA,QB,QC,QD,QE,QF,QG,QH,QI,QJ,QK,QL,QM,QN,QO,QP,QQ,QR,QS,QT,QU,QV,QW,QX,QY,QZ,Q0,Q1,Q2,Q3,Q4,Q5,Q6,Q7,Q8,Q9,Xa,Xb,Xc,Xd,Xe,Xf,Xg,Xh,Xi,Xj,Xk,Xl,Xm,Xn,Xo,Xp,Xq,Xr,Xs,Xt,Xu,Xv,Xw,Xx,Xy,Xz,XA,XB,XC,XD,XE,XF,XG,XH,XI,XJ,XK,XL,XM,XN,XO,XP,XQ,XR,XS,XT,XU,XV,XW,XX,XY,XZ,X0,X1,X2,X3,X4,X5,X6,X7,X8,X9,Ya,Yb,Yc,Yd,Ye,Yf,Yg,Yh,Yi,Yj,Yk,Yl,Ym,Yn,Yo,Yp,Yq,Yr,Ys,Yt,Yu,Yv,Yw,Yx,Yy,Yz,YA,YB,YC,YD,YE,YF,YG,YH,YI,YJ,YK,YL,YM,YN,YO,YP,YQ,YR,YS,YT,YU,YV,YW,YX,YY,YZ,Y0,Y1,Y2,Y3,Y4,Y5,Y6,Y7,Y8,Y9,Za,Zb,Zc,Zd,Ze,Zf,Zg,Zh,Zi,Zj,Zk,Zl,Zm,Zn,Zo,Zp,Zq,Zr,Zs,Zt,Zu,Zv,Zw,Zx,Zy,Zz,ZA,ZB,ZC,ZD,ZE,ZF,ZG,ZH,ZI,ZJ,ZK,ZL,ZM,ZN,ZO,ZP,ZQ,ZR,ZS,ZT,ZU,ZV,ZW,ZX,ZY,ZZ,Z0,Z1,Z2,Z3,Z4,Z5,Z6,Z7,Z8,Z9,Ja,Jb,Jc,Jd,Je,Jf,Jg,Jh,Ji,Jj,Jk,Jl,Jm,Jn,Jo,Jp,Jq,Jr,Js,Jt,Ju,Jv,Jw,Jx,Jy,Jz,JA,JB,JC,JD,JE,JF,JG,JH,JI,JJ,JK,JL,JM,JN,JO,JP,JQ,JR,JS,JT,JU,JV,JW,JX,JY,JZ,J0,J1,J2,J3,J4,J5,J6,J7,J8,J9,Ka,Kb,Kc,Kd,Ke,Kf,Kg,Kh,Ki,Kj,Kk,Kl,Km,Kn,Ko,Kp,Kq,Kr,Ks,Kt,Ku,Kv,Kw,Kx,Ky,Kz,KA,KB,KC,KD,KE,KF,KG,KH,KI,KJ,KK,KL,KM,KN,KO,KP,KQ,KR,KS,KT,KU,KV,KW,KX,KY,KZ,K0,K1,K2,K3,K4,K5,K6,K7,K8,K9,Ga,Gb,Gc,Gd,Ge,Gf,Gg,Gh,Gi,Gj,Gk,Gl,Gm,Gn,Gp,Gq,Gr,Gs,Gt,Gu,Gv,Gw,Gx,Gy,Gz,GA,GB,GC,GD,GE,GF,GG,GH,GI,GJ,GK,GL,GM,GN,GO,GP,GQ,GR,GS,GT,Nat.le_refl,Nat.reduceLeDiff,List.drop_zero,us_take,us_drop,is_take,is_drop,List.take_zero,gn,if_true,if_false,Nat.reduceEqDiff,Int.reduceEq,reduceCtorEq,Nat.succ_ne_self,Nat.reduceAdd,Nat.zero_add,Nat.add_zero,Nat.reduceMul,Nat.mul_one,Nat.one_mul,Nat.zero_mul,Nat.sub_zero,decide_true,decide_false,Bool.and_self,Bool.and_true,Bool.true_and,Bool.false_and,Bool.and_false,Bool.not_true,Bool.not_false,List.length_cons,List.length_nil,us_len,is_len,tb_len,dl_len,us_set,is_set,tb_set,Nat.not_lt_zero,List.nil_append,us_rep,is_rep, List.set_cons_zero, c0, p1, p2, p3, p4, p6, p7, q1, q2, ← hw1, ← hw3, ← hw4, e8', d1, d2, d3, d4, s1, s2, s3, s4, s5, s6, s7, s8, s9, s10, s11, s12, s13, s14, c9, c5, c6, k1, k2, q3, q4, q5, eq18s, widev_noHp]

end Mir
