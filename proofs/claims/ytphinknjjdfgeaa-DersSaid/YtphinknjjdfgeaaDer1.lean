/- Chapter 22, laws as the small language runs them: signatures come back, lengths, spoilt ones. Conditions: none. -/
import Derived.Test.YtphinknjjdfgeaaDerC
import Derived.Test.YtphinknjjdfgeaaDerG
import Derived.Test.YtphinknjjdfgeaaAwake22
set_option linter.unusedVariables false
set_option linter.unusedSimpArgs false
set_option exponentiation.threshold 5000
set_option maxRecDepth 20000
namespace Mir

theorem sig_parts {z : Nat} (hz : z < M * M) : z % M < M ∧ z / M < M ∧ z % M + M * (z / M) = z := by
  have hM : 0 < M := Nat.two_pow_pos _
  exact ⟨Nat.mod_lt _ hM, by rw [Nat.div_lt_iff_lt_mul hM]; exact hz, Nat.mod_add_div z M⟩

theorem law_DerBack {z : Nat} {s : List Nat} (hz : z < M * M) (hs : ∀ x ∈ s, x < 256) (hn : s.length < 9223372036854775808) : Run T f_curvetlaw22_DerBack [widev z, .s s] [] = some (.b true, []) := by
  rw [Run_at T _ (show T f_curvetlaw22_DerBack = some m_curvetlaw22_DerBack from rfl)]
  simp only [c_curvetlaw22_DerBack, zero18]
  have c0 := r_awake
  obtain ⟨h1, h2, h3⟩ := sig_parts hz
  have c1 := r_Put hz
  obtain ⟨a1, a2, a3, a4⟩ := pPut_len h1 h2
  have c2 := r_Get (s := pPut (z % M) (z / M)) (by omega) (pPut_by h1 h2)
  rw [pGet_pPut h1 h2, h3] at c2
  have c3 := r_Get hn hs
  obtain ⟨S, hS⟩ : ∃ S, S = pPut (z % M) (z / M) := ⟨_, rfl⟩
  rw [← hS] at c1 c2
  have c4 := r_Num 0
  have c5 := r_Num 2200
  have k1 := eqis 0
  have e0 : ((0 : Nat) : Int) = 0 := rfl
  have e1 : ((2200 : Nat) : Int) = 2200 := rfl
  simp only [e0] at c2
  rcases pGet_cases hs with ⟨r, t, g1, g2, g3, g4⟩ | g
  · rw [g3] at c3
    simp only [e0] at c3
    have hM : 0 < M := Nat.two_pow_pos _
    have hy : r + M * t < M * M := by
      have : M * (t + 1) ≤ M * M := Nat.mul_le_mul_left _ g2
      rw [Nat.mul_succ] at this
      omega
    have c6 := r_Put hy
    rw [Nat.add_mul_mod_self_left, Nat.mod_eq_of_lt g1, Nat.add_mul_div_left _ _ hM, Nat.div_eq_of_lt g1, Nat.zero_add, g4] at c6
    obtain ⟨y, hy'⟩ : ∃ y, y = r + M * t := ⟨_, rfl⟩
    rw [← hy'] at c3 c6
    have k2 : (s == s) = true := by simp
    simp only [Qa,Qb,Qc,Qd,Qe,Qf,Qg,Qh,Qi,Qj,Qk,Ql,Qm,Qn,Qo,Qp,Qq,Qr,Qs,Qt,Qu,Qv,Qw,Qx,Qy,Qz,QA,QB,QC,QD,QE,QF,QG,QH,QI,QJ,QK,QL,QM,QN,QO,QP,QQ,QR,QS,QT,QU,QV,QW,QX,QY,QZ,Q0,Q1,Q2,Q3,Q4,Q5,Q6,Q7,Q8,Q9,Xa,Xb,Xc,Xd,Xe,Xf,Xg,Xh,Xi,Xj,Xk,Xl,Xm,Xn,Xo,Xp,Xq,Xr,Xs,Xt,Xu,Xv,Xw,Xx,Xy,Xz,XA,XB,XC,XD,XE,XF,XG,XH,XI,XJ,XK,XL,XM,XN,XO,XP,XQ,XR,XS,XT,XU,XV,XW,XX,XY,XZ,X0,X1,X2,X3,X4,X5,X6,X7,X8,X9,Ya,Yb,Yc,Yd,Ye,Yf,Yg,Yh,Yi,Yj,Yk,Yl,Ym,Yn,Yo,Yp,Yq,Yr,Ys,Yt,Yu,Yv,Yw,Yx,Yy,Yz,YA,YB,YC,YD,YE,YF,YG,YH,YI,YJ,YK,YL,YM,YN,YO,YP,YQ,YR,YS,YT,YU,YV,YW,YX,YY,YZ,Y0,Y1,Y2,Y3,Y4,Y5,Y6,Y7,Y8,Y9,Za,Zb,Zc,Zd,Ze,Zf,Zg,Zh,Zi,Zj,Zk,Zl,Zm,Zn,Zo,Zp,Zq,Zr,Zs,Zt,Zu,Zv,Zw,Zx,Zy,Zz,ZA,ZB,ZC,ZD,ZE,ZF,ZG,ZH,ZI,ZJ,ZK,ZL,ZM,ZN,ZO,ZP,ZQ,ZR,ZS,ZT,ZU,ZV,ZW,ZX,ZY,ZZ,Z0,Z1,Z2,Z3,Z4,Z5,Z6,Z7,Z8,Z9,Ja,Jb,Jc,Jd,Je,Jf,Jg,Jh,Ji,Jj,Jk,Jl,Jm,Jn,Jo,Jp,Jq,Jr,Js,Jt,Ju,Jv,Jw,Jx,Jy,Jz,JA,JB,JC,JD,JE,JF,JG,JH,JI,JJ,JK,JL,JM,JN,JO,JP,JQ,JR,JS,JT,JU,JV,JW,JX,JY,JZ,J0,J1,J2,J3,J4,J5,J6,J7,J8,J9,Ka,Kb,Kc,Kd,Ke,Kf,Kg,Kh,Ki,Kj,Kk,Kl,Km,Kn,Ko,Kp,Kq,Kr,Ks,Kt,Ku,Kv,Kw,Kx,Ky,Kz,KA,KB,KC,KD,KE,KF,KG,KH,KI,KJ,KK,KL,KM,KN,KO,KP,KQ,KR,KS,KT,KU,KV,KW,KX,KY,KZ,K0,K1,K2,K3,K4,K5,K6,K7,K8,K9,Ga,Gb,Gc,Gd,Ge,Gf,Gg,Gh,Gi,Gj,Gk,Gl,Gm,Gn,Gp,Gq,Gr,Gs,Gt,Gu,Gv,Gw,Gx,Gy,Gz,GA,GB,GC,GD,GE,GF,GG,GH,GI,GJ,GK,GL,GM,GN,GO,GP,GQ,GR,GS,GT,Nat.le_refl,Nat.reduceLeDiff,List.drop_zero,us_take,us_drop,is_take,is_drop,List.take_zero,gn,if_true,if_false,Nat.reduceEqDiff,Int.reduceEq,reduceCtorEq,Nat.succ_ne_self,Nat.reduceAdd,Nat.zero_add,Nat.add_zero,Nat.reduceMul,Nat.mul_one,Nat.one_mul,Nat.zero_mul,Nat.sub_zero,decide_true,decide_false,Bool.and_self,Bool.and_true,Bool.true_and,Bool.false_and,Bool.and_false,Bool.not_true,Bool.not_false,List.length_cons,List.length_nil,us_len,is_len,tb_len,dl_len,us_set,is_set,tb_set,Nat.not_lt_zero,List.nil_append,us_rep,is_rep, c0, c1, c2, c3, c4, c6, k1, k2, Ja, eq18s, widev_noHp]
  · rw [g] at c3
    simp only [e1] at c3
    simp only [Qa,Qb,Qc,Qd,Qe,Qf,Qg,Qh,Qi,Qj,Qk,Ql,Qm,Qn,Qo,Qp,Qq,Qr,Qs,Qt,Qu,Qv,Qw,Qx,Qy,Qz,QA,QB,QC,QD,QE,QF,QG,QH,QI,QJ,QK,QL,QM,QN,QO,QP,QQ,QR,QS,QT,QU,QV,QW,QX,QY,QZ,Q0,Q1,Q2,Q3,Q4,Q5,Q6,Q7,Q8,Q9,Xa,Xb,Xc,Xd,Xe,Xf,Xg,Xh,Xi,Xj,Xk,Xl,Xm,Xn,Xo,Xp,Xq,Xr,Xs,Xt,Xu,Xv,Xw,Xx,Xy,Xz,XA,XB,XC,XD,XE,XF,XG,XH,XI,XJ,XK,XL,XM,XN,XO,XP,XQ,XR,XS,XT,XU,XV,XW,XX,XY,XZ,X0,X1,X2,X3,X4,X5,X6,X7,X8,X9,Ya,Yb,Yc,Yd,Ye,Yf,Yg,Yh,Yi,Yj,Yk,Yl,Ym,Yn,Yo,Yp,Yq,Yr,Ys,Yt,Yu,Yv,Yw,Yx,Yy,Yz,YA,YB,YC,YD,YE,YF,YG,YH,YI,YJ,YK,YL,YM,YN,YO,YP,YQ,YR,YS,YT,YU,YV,YW,YX,YY,YZ,Y0,Y1,Y2,Y3,Y4,Y5,Y6,Y7,Y8,Y9,Za,Zb,Zc,Zd,Ze,Zf,Zg,Zh,Zi,Zj,Zk,Zl,Zm,Zn,Zo,Zp,Zq,Zr,Zs,Zt,Zu,Zv,Zw,Zx,Zy,Zz,ZA,ZB,ZC,ZD,ZE,ZF,ZG,ZH,ZI,ZJ,ZK,ZL,ZM,ZN,ZO,ZP,ZQ,ZR,ZS,ZT,ZU,ZV,ZW,ZX,ZY,ZZ,Z0,Z1,Z2,Z3,Z4,Z5,Z6,Z7,Z8,Z9,Ja,Jb,Jc,Jd,Je,Jf,Jg,Jh,Ji,Jj,Jk,Jl,Jm,Jn,Jo,Jp,Jq,Jr,Js,Jt,Ju,Jv,Jw,Jx,Jy,Jz,JA,JB,JC,JD,JE,JF,JG,JH,JI,JJ,JK,JL,JM,JN,JO,JP,JQ,JR,JS,JT,JU,JV,JW,JX,JY,JZ,J0,J1,J2,J3,J4,J5,J6,J7,J8,J9,Ka,Kb,Kc,Kd,Ke,Kf,Kg,Kh,Ki,Kj,Kk,Kl,Km,Kn,Ko,Kp,Kq,Kr,Ks,Kt,Ku,Kv,Kw,Kx,Ky,Kz,KA,KB,KC,KD,KE,KF,KG,KH,KI,KJ,KK,KL,KM,KN,KO,KP,KQ,KR,KS,KT,KU,KV,KW,KX,KY,KZ,K0,K1,K2,K3,K4,K5,K6,K7,K8,K9,Ga,Gb,Gc,Gd,Ge,Gf,Gg,Gh,Gi,Gj,Gk,Gl,Gm,Gn,Gp,Gq,Gr,Gs,Gt,Gu,Gv,Gw,Gx,Gy,Gz,GA,GB,GC,GD,GE,GF,GG,GH,GI,GJ,GK,GL,GM,GN,GO,GP,GQ,GR,GS,GT,Nat.le_refl,Nat.reduceLeDiff,List.drop_zero,us_take,us_drop,is_take,is_drop,List.take_zero,gn,if_true,if_false,Nat.reduceEqDiff,Int.reduceEq,reduceCtorEq,Nat.succ_ne_self,Nat.reduceAdd,Nat.zero_add,Nat.add_zero,Nat.reduceMul,Nat.mul_one,Nat.one_mul,Nat.zero_mul,Nat.sub_zero,decide_true,decide_false,Bool.and_self,Bool.and_true,Bool.true_and,Bool.false_and,Bool.and_false,Bool.not_true,Bool.not_false,List.length_cons,List.length_nil,us_len,is_len,tb_len,dl_len,us_set,is_set,tb_set,Nat.not_lt_zero,List.nil_append,us_rep,is_rep, c0, c1, c2, c3, c4, c5, k1, eq18s, widev_noHp]

theorem pNum_bl {x : Nat} (hx : x < M) : (pNum x).length = bl x / 8 + 1 := by
  have h1 := nby_pos x
  have h2 := bl_le_iff.1 (nby_bl x)
  have ht : x / 2 ^ (8 * (nby x - 1)) % 2 ^ 8 = x / 2 ^ (8 * (nby x - 1)) := by
    refine Nat.mod_eq_of_lt ?_
    rw [Nat.div_lt_iff_lt_mul (Nat.two_pow_pos _), ← Nat.pow_add, show 8 + 8 * (nby x - 1) = 8 * nby x by omega]
    exact h2
  have hiff : 128 ≤ x / 2 ^ (8 * (nby x - 1)) ↔ ¬ bl x ≤ 8 * nby x - 1 := by
    rw [bl_le_iff, Nat.le_div_iff_mul_le (Nat.two_pow_pos _)]
    have e : 128 * 2 ^ (8 * (nby x - 1)) = 2 ^ (8 * nby x - 1) := by
      rw [show (128 : Nat) = 2 ^ 7 from rfl, ← Nat.pow_add]; congr 1; omega
    rw [e]; omega
  have h3 := nby_bl x
  have h4 : 8 * (nby x - 1) ≤ bl x := by unfold nby; split <;> omega
  have h5 : bl x ≠ 0 → 8 * (nby x - 1) < bl x := fun h => by unfold nby; split <;> omega
  unfold pNum
  rw [ht]
  split
  · rename_i h
    have := hiff.1 h
    rw [List.length_cons, bs_len]; omega
  · rename_i h
    have : bl x ≤ 8 * nby x - 1 := Decidable.not_not.1 fun hh => h (hiff.2 hh)
    rw [bs_len]
    by_cases h0 : bl x = 0
    · have : nby x = 1 := by unfold nby; rw [h0]; rfl
      omega
    · have := h5 h0
      omega

theorem law_DerLengths {z : Nat} (hz : z < M * M) : Run T f_curvetlaw22_DerLengths [widev z] [] = some (.b true, []) := by
  rw [Run_at T _ (show T f_curvetlaw22_DerLengths = some m_curvetlaw22_DerLengths from rfl)]
  simp only [c_curvetlaw22_DerLengths]
  have c0 := r_awake
  obtain ⟨h1, h2, h3⟩ := sig_parts hz
  have c1 := r_Put hz
  have p1 := sig_lo z
  have p2 := sig_hi (z := z)
  obtain ⟨r, hr⟩ : ∃ r, r = z % M := ⟨_, rfl⟩
  obtain ⟨t, ht⟩ : ∃ t, t = z / M := ⟨_, rfl⟩
  rw [← hr] at h1 p1 c1
  rw [← ht] at h2 p2 c1
  have c2 := r_natBits h1
  have c3 := r_natBits h2
  have b1 : bl r ≤ 576 := bl_le_iff.2 h1
  have b2 : bl t ≤ 576 := bl_le_iff.2 h2
  obtain ⟨l1, l2, l3, l4, l5⟩ := body_len h1 h2
  rw [pNum_bl h1, pNum_bl h2] at l1
  obtain ⟨br, hbr⟩ : ∃ b, b = bl r := ⟨_, rfl⟩
  obtain ⟨bt, hbt⟩ : ∃ b, b = bl t := ⟨_, rfl⟩
  rw [← hbr] at c2 b1 l1
  rw [← hbt] at c3 b2 l1
  obtain ⟨a8, ha8⟩ : ∃ a, a = br / 8 := ⟨_, rfl⟩
  obtain ⟨b8, hb8⟩ : ∃ a, a = bt / 8 := ⟨_, rfl⟩
  obtain ⟨a, ha⟩ : ∃ a, a = br / 8 + 1 := ⟨_, rfl⟩
  obtain ⟨b, hb⟩ : ∃ a, a = bt / 8 + 1 := ⟨_, rfl⟩
  obtain ⟨a4, ha4⟩ : ∃ x, x = 4 + a := ⟨_, rfl⟩
  obtain ⟨a6, ha6⟩ : ∃ x, x = a4 + 2 := ⟨_, rfl⟩
  obtain ⟨w, hw⟩ : ∃ x, x = a6 + b := ⟨_, rfl⟩
  obtain ⟨w1, hw1⟩ : ∃ x, x = w + 1 := ⟨_, rfl⟩
  obtain ⟨ab, hab⟩ : ∃ x, x = a + b := ⟨_, rfl⟩
  obtain ⟨N, hN⟩ : ∃ x, x = a + b + 4 := ⟨_, rfl⟩
  have k1 : F (w64 (Int.tdiv (br : Int) 8)) (a8 : Int) := ⟨by rw [Int.tdiv_eq_ediv_of_nonneg (by omega)]; unfold w64; omega⟩
  have k2 : F (w64 (Int.tdiv (bt : Int) 8)) (b8 : Int) := ⟨by rw [Int.tdiv_eq_ediv_of_nonneg (by omega)]; unfold w64; omega⟩
  have k3 : F (w64 ((a8 : Int) + 1)) (a : Int) := ⟨by rw [ha, ha8]; unfold w64; omega⟩
  have k4 : F (w64 ((b8 : Int) + 1)) (b : Int) := ⟨by rw [hb, hb8]; unfold w64; omega⟩
  have k5 : F (w64 (4 + (a : Int))) (a4 : Int) := ⟨by rw [ha4]; unfold w64; omega⟩
  have k6 : F (w64 ((a4 : Int) + 2)) (a6 : Int) := ⟨by rw [ha6]; unfold w64; omega⟩
  have k7 : F (w64 ((a6 : Int) + (b : Int))) (w : Int) := ⟨by rw [hw]; unfold w64; omega⟩
  have k8 : F (w64 ((a : Int) + (b : Int))) (ab : Int) := ⟨by rw [hab]; unfold w64; omega⟩
  have k9 : F (w64 ((ab : Int) + 4)) (N : Int) := ⟨by rw [hN, hab]; unfold w64; omega⟩
  have k10 : F (w64 ((w : Int) + 1)) (w1 : Int) := ⟨by rw [hw1]; unfold w64; omega⟩
  have e : pPut r t = pField 48 (pField 2 (pNum r) ++ pField 2 (pNum t)) := rfl
  obtain ⟨body, hbody⟩ : ∃ x, pField 2 (pNum r) ++ pField 2 (pNum t) = x := ⟨_, rfl⟩
  rw [hbody] at e l1
  have hlN : body.length = N := by omega
  have hm : body.length % 256 = N := by omega
  have g1 : decide ((48 : Nat) = 48) = true := rfl
  have g2 := eqis (N : Int)
  by_cases h : N < 128
  · have e2 : pPut r t = 48 :: N :: body := by rw [e, pField, if_pos (by omega), hm]
    rw [e2] at c1
    have d1 : decide ((128 : Int) ≤ (N : Int)) = false := decide_eq_false (by omega)
    have d2 : decide ((N : Int) < 128) = true := decide_eq_true (by omega)
    have d3 : decide ((48 :: N :: body).length < 9223372036854775808) = true := decide_eq_true (by simp; omega)
    have d4 : decide (((48 :: N :: body).length : Int) = (w : Int)) = true := decide_eq_true (by simp; omega)
    have d5 := ixOf_nat (n := (48 :: N :: body).length) (k := 0) (by simp)
    have d6 := ixOf_nat (n := (48 :: N :: body).length) (k := 1) (by simp)
    have d7 : (48 :: N :: body)[0]? = some 48 := rfl
    have d8 : (48 :: N :: body)[1]? = some N := rfl
    have d9 : F (w64 ((N : Nat) : Int)) (N : Int) := ⟨by unfold w64; omega⟩
    obtain ⟨S, hS⟩ : ∃ S, S = 48 :: N :: body := ⟨_, rfl⟩
    rw [← hS] at c1 d3 d4 d5 d6 d7 d8
    rw [Int.natCast_zero] at d5
    rw [Int.natCast_one] at d6
    simp only [Qa,Qb,Qc,Qd,Qe,Qf,Qg,Qh,Qi,Qj,Qk,Ql,Qm,Qn,Qo,Qp,Qq,Qr,Qs,Qt,Qu,Qv,Qw,Qx,Qy,Qz,QA,QB,QC,QD,QE,QF,QG,QH,QI,QJ,QK,QL,QM,QN,QO,QP,QQ,QR,QS,QT,QU,QV,QW,QX,QY,QZ,Q0,Q1,Q2,Q3,Q4,Q5,Q6,Q7,Q8,Q9,Xa,Xb,Xc,Xd,Xe,Xf,Xg,Xh,Xi,Xj,Xk,Xl,Xm,Xn,Xo,Xp,Xq,Xr,Xs,Xt,Xu,Xv,Xw,Xx,Xy,Xz,XA,XB,XC,XD,XE,XF,XG,XH,XI,XJ,XK,XL,XM,XN,XO,XP,XQ,XR,XS,XT,XU,XV,XW,XX,XY,XZ,X0,X1,X2,X3,X4,X5,X6,X7,X8,X9,Ya,Yb,Yc,Yd,Ye,Yf,Yg,Yh,Yi,Yj,Yk,Yl,Ym,Yn,Yo,Yp,Yq,Yr,Ys,Yt,Yu,Yv,Yw,Yx,Yy,Yz,YA,YB,YC,YD,YE,YF,YG,YH,YI,YJ,YK,YL,YM,YN,YO,YP,YQ,YR,YS,YT,YU,YV,YW,YX,YY,YZ,Y0,Y1,Y2,Y3,Y4,Y5,Y6,Y7,Y8,Y9,Za,Zb,Zc,Zd,Ze,Zf,Zg,Zh,Zi,Zj,Zk,Zl,Zm,Zn,Zo,Zp,Zq,Zr,Zs,Zt,Zu,Zv,Zw,Zx,Zy,Zz,ZA,ZB,ZC,ZD,ZE,ZF,ZG,ZH,ZI,ZJ,ZK,ZL,ZM,ZN,ZO,ZP,ZQ,ZR,ZS,ZT,ZU,ZV,ZW,ZX,ZY,ZZ,Z0,Z1,Z2,Z3,Z4,Z5,Z6,Z7,Z8,Z9,Ja,Jb,Jc,Jd,Je,Jf,Jg,Jh,Ji,Jj,Jk,Jl,Jm,Jn,Jo,Jp,Jq,Jr,Js,Jt,Ju,Jv,Jw,Jx,Jy,Jz,JA,JB,JC,JD,JE,JF,JG,JH,JI,JJ,JK,JL,JM,JN,JO,JP,JQ,JR,JS,JT,JU,JV,JW,JX,JY,JZ,J0,J1,J2,J3,J4,J5,J6,J7,J8,J9,Ka,Kb,Kc,Kd,Ke,Kf,Kg,Kh,Ki,Kj,Kk,Kl,Km,Kn,Ko,Kp,Kq,Kr,Ks,Kt,Ku,Kv,Kw,Kx,Ky,Kz,KA,KB,KC,KD,KE,KF,KG,KH,KI,KJ,KK,KL,KM,KN,KO,KP,KQ,KR,KS,KT,KU,KV,KW,KX,KY,KZ,K0,K1,K2,K3,K4,K5,K6,K7,K8,K9,Ga,Gb,Gc,Gd,Ge,Gf,Gg,Gh,Gi,Gj,Gk,Gl,Gm,Gn,Gp,Gq,Gr,Gs,Gt,Gu,Gv,Gw,Gx,Gy,Gz,GA,GB,GC,GD,GE,GF,GG,GH,GI,GJ,GK,GL,GM,GN,GO,GP,GQ,GR,GS,GT,Nat.le_refl,Nat.reduceLeDiff,List.drop_zero,us_take,us_drop,is_take,is_drop,List.take_zero,gn,if_true,if_false,Nat.reduceEqDiff,Int.reduceEq,reduceCtorEq,Nat.succ_ne_self,Nat.reduceAdd,Nat.zero_add,Nat.add_zero,Nat.reduceMul,Nat.mul_one,Nat.one_mul,Nat.zero_mul,Nat.sub_zero,decide_true,decide_false,Bool.and_self,Bool.and_true,Bool.true_and,Bool.false_and,Bool.and_false,Bool.not_true,Bool.not_false,List.length_cons,List.length_nil,us_len,is_len,tb_len,dl_len,us_set,is_set,tb_set,Nat.not_lt_zero,List.nil_append,us_rep,is_rep, c0, c1, c2, c3, p1, p2, k1.eq, k2.eq, k3.eq, k4.eq, k5.eq, k6.eq, k7.eq, k8.eq, k9.eq, g1, g2, d1, d2, d3, d4, d5, d6, d7, d8, d9.eq, natv_noHp, widev_noHp]
  · have e2 : pPut r t = 48 :: 129 :: N :: body := by rw [e, pField, if_neg (by omega), hm]
    rw [e2] at c1
    have d1 : decide ((128 : Int) ≤ (N : Int)) = true := decide_eq_true (by omega)
    have d2 : decide ((N : Int) < 128) = false := decide_eq_false (by omega)
    have d3 : decide ((48 :: 129 :: N :: body).length < 9223372036854775808) = true := decide_eq_true (by simp; omega)
    have d4 : decide (((48 :: 129 :: N :: body).length : Int) = (w1 : Int)) = true := decide_eq_true (by simp; omega)
    have d5 := ixOf_nat (n := (48 :: 129 :: N :: body).length) (k := 0) (by simp)
    have d6 := ixOf_nat (n := (48 :: 129 :: N :: body).length) (k := 1) (by simp)
    have d10 := ixOf_nat (n := (48 :: 129 :: N :: body).length) (k := 2) (by simp)
    have d7 : (48 :: 129 :: N :: body)[0]? = some 48 := rfl
    have d8 : (48 :: 129 :: N :: body)[1]? = some 129 := rfl
    have d11 : (48 :: 129 :: N :: body)[2]? = some N := rfl
    have d9 : F (w64 ((N : Nat) : Int)) (N : Int) := ⟨by unfold w64; omega⟩
    have d12 : decide ((129 : Nat) = 129) = true := rfl
    have e3 : ((2 : Nat) : Int) = 2 := rfl
    obtain ⟨S, hS⟩ : ∃ S, S = 48 :: 129 :: N :: body := ⟨_, rfl⟩
    rw [← hS] at c1 d3 d4 d5 d6 d7 d8 d10 d11
    rw [Int.natCast_zero] at d5
    rw [Int.natCast_one] at d6
    rw [e3] at d10
    simp only [Qa,Qb,Qc,Qd,Qe,Qf,Qg,Qh,Qi,Qj,Qk,Ql,Qm,Qn,Qo,Qp,Qq,Qr,Qs,Qt,Qu,Qv,Qw,Qx,Qy,Qz,QA,QB,QC,QD,QE,QF,QG,QH,QI,QJ,QK,QL,QM,QN,QO,QP,QQ,QR,QS,QT,QU,QV,QW,QX,QY,QZ,Q0,Q1,Q2,Q3,Q4,Q5,Q6,Q7,Q8,Q9,Xa,Xb,Xc,Xd,Xe,Xf,Xg,Xh,Xi,Xj,Xk,Xl,Xm,Xn,Xo,Xp,Xq,Xr,Xs,Xt,Xu,Xv,Xw,Xx,Xy,Xz,XA,XB,XC,XD,XE,XF,XG,XH,XI,XJ,XK,XL,XM,XN,XO,XP,XQ,XR,XS,XT,XU,XV,XW,XX,XY,XZ,X0,X1,X2,X3,X4,X5,X6,X7,X8,X9,Ya,Yb,Yc,Yd,Ye,Yf,Yg,Yh,Yi,Yj,Yk,Yl,Ym,Yn,Yo,Yp,Yq,Yr,Ys,Yt,Yu,Yv,Yw,Yx,Yy,Yz,YA,YB,YC,YD,YE,YF,YG,YH,YI,YJ,YK,YL,YM,YN,YO,YP,YQ,YR,YS,YT,YU,YV,YW,YX,YY,YZ,Y0,Y1,Y2,Y3,Y4,Y5,Y6,Y7,Y8,Y9,Za,Zb,Zc,Zd,Ze,Zf,Zg,Zh,Zi,Zj,Zk,Zl,Zm,Zn,Zo,Zp,Zq,Zr,Zs,Zt,Zu,Zv,Zw,Zx,Zy,Zz,ZA,ZB,ZC,ZD,ZE,ZF,ZG,ZH,ZI,ZJ,ZK,ZL,ZM,ZN,ZO,ZP,ZQ,ZR,ZS,ZT,ZU,ZV,ZW,ZX,ZY,ZZ,Z0,Z1,Z2,Z3,Z4,Z5,Z6,Z7,Z8,Z9,Ja,Jb,Jc,Jd,Je,Jf,Jg,Jh,Ji,Jj,Jk,Jl,Jm,Jn,Jo,Jp,Jq,Jr,Js,Jt,Ju,Jv,Jw,Jx,Jy,Jz,JA,JB,JC,JD,JE,JF,JG,JH,JI,JJ,JK,JL,JM,JN,JO,JP,JQ,JR,JS,JT,JU,JV,JW,JX,JY,JZ,J0,J1,J2,J3,J4,J5,J6,J7,J8,J9,Ka,Kb,Kc,Kd,Ke,Kf,Kg,Kh,Ki,Kj,Kk,Kl,Km,Kn,Ko,Kp,Kq,Kr,Ks,Kt,Ku,Kv,Kw,Kx,Ky,Kz,KA,KB,KC,KD,KE,KF,KG,KH,KI,KJ,KK,KL,KM,KN,KO,KP,KQ,KR,KS,KT,KU,KV,KW,KX,KY,KZ,K0,K1,K2,K3,K4,K5,K6,K7,K8,K9,Ga,Gb,Gc,Gd,Ge,Gf,Gg,Gh,Gi,Gj,Gk,Gl,Gm,Gn,Gp,Gq,Gr,Gs,Gt,Gu,Gv,Gw,Gx,Gy,Gz,GA,GB,GC,GD,GE,GF,GG,GH,GI,GJ,GK,GL,GM,GN,GO,GP,GQ,GR,GS,GT,Nat.le_refl,Nat.reduceLeDiff,List.drop_zero,us_take,us_drop,is_take,is_drop,List.take_zero,gn,if_true,if_false,Nat.reduceEqDiff,Int.reduceEq,reduceCtorEq,Nat.succ_ne_self,Nat.reduceAdd,Nat.zero_add,Nat.add_zero,Nat.reduceMul,Nat.mul_one,Nat.one_mul,Nat.zero_mul,Nat.sub_zero,decide_true,decide_false,Bool.and_self,Bool.and_true,Bool.true_and,Bool.false_and,Bool.and_false,Bool.not_true,Bool.not_false,List.length_cons,List.length_nil,us_len,is_len,tb_len,dl_len,us_set,is_set,tb_set,Nat.not_lt_zero,List.nil_append,us_rep,is_rep, c0, c1, c2, c3, p1, p2, k1.eq, k2.eq, k3.eq, k4.eq, k5.eq, k6.eq, k7.eq, k8.eq, k9.eq, k10.eq, g1, g2, d1, d2, d3, d4, d5, d6, d7, d8, d9.eq, d10, d11, d12, natv_noHp, widev_noHp]

theorem law_DerSpoilt {z : Nat} {cut more : Int} (hz : z < M * M) (_ : -9223372036854775808 ≤ cut) (_ : cut < 9223372036854775808) (_ : -9223372036854775808 ≤ more) (_ : more < 9223372036854775808) :
    Run T f_curvetlaw22_DerSpoilt [widev z, .i cut, .i more] [] = some (.b true, []) := by
  rw [Run_at T _ (show T f_curvetlaw22_DerSpoilt = some m_curvetlaw22_DerSpoilt from rfl)]
  simp only [c_curvetlaw22_DerSpoilt, zero18]
  have c0 := r_awake
  obtain ⟨h1, h2, h3⟩ := sig_parts hz
  have c1 := r_Put hz
  obtain ⟨r, hr⟩ : ∃ r, r = z % M := ⟨_, rfl⟩
  obtain ⟨t, ht⟩ : ∃ t, t = z / M := ⟨_, rfl⟩
  rw [← hr] at h1 c1
  rw [← ht] at h2 c1
  obtain ⟨a1, a2, a3, l, a4⟩ := pPut_len h1 h2
  have hby := pPut_by h1 h2
  obtain ⟨L, hL⟩ : ∃ L, L = (pPut r t).length := ⟨_, rfl⟩
  rw [← hL] at a1 a2 a3
  -- cut short
  obtain ⟨u, hu⟩ : ∃ u, u = (cut % 2 ^ 64).toNat := ⟨_, rfl⟩
  obtain ⟨c, hc⟩ : ∃ c, c = u % L := ⟨_, rfl⟩
  have hcL : c < L := by rw [hc]; exact Nat.mod_lt _ (by omega)
  have c2 := r_Get (s := (pPut r t).take c) (by rw [List.length_take]; omega) (hby.take c)
  rw [pGet_cut h1 h2 (by omega)] at c2
  have k1 : F ((((L : Nat) : Int) % 2 ^ 64).toNat) L := ⟨by omega⟩
  have k2 : decide (L = 0) = false := decide_eq_false (by omega)
  have k3 : F (w64 ((c : Nat) : Int)) (c : Int) := ⟨w64_of (by omega) (by omega)⟩
  have k4 := ixOf_nat (show c < L + 1 by omega)
  have k5 : decide (L < 9223372036854775808) = true := decide_eq_true (by omega)
  -- a byte more
  obtain ⟨y, hy⟩ : ∃ y, y = (more % 2 ^ 8).toNat := ⟨_, rfl⟩
  have hyl : y < 256 := by omega
  have c3 := r_Get (s := pPut r t ++ [y]) (by rw [List.length_append, ← hL]; simp; omega) (fun x hx => by
    rcases List.mem_append.1 hx with h | h
    · exact hby x h
    · simp at h; omega)
  rw [pGet_more h1 h2 (by simp) (fun x hx => by simp at hx; omega)] at c3
  have k6 : b2sV true [] (.vs 1 [.u 8 y]) = some (.s [y]) := b2s_vs (l := [y]) rfl
  have k7 : binV .add (.s (pPut r t)) (.s [y]) = some (.s (pPut r t ++ [y])) := s_add _ _ (by rw [← hL]; simp; omega)
  have k8 : okc 1 [V.u 8 y] 0 1 = true := by simp [okc, cellV]
  -- the head turned
  obtain ⟨v, hv⟩ : ∃ v, v = (more % 2 ^ 64).toNat := ⟨_, rfl⟩
  obtain ⟨d, hd⟩ : ∃ d, d = v % 255 := ⟨_, rfl⟩
  have hdl : d < 255 := by rw [hd]; exact Nat.mod_lt _ (by omega)
  obtain ⟨d1, hd1⟩ : ∃ d1, d1 = 1 + d := ⟨_, rfl⟩
  have k9 : F (w64 ((d : Nat) : Int)) (d : Int) := ⟨w64_of (by omega) (by omega)⟩
  have k10 : F (w64 (1 + (d : Int))) (d1 : Int) := ⟨by rw [hd1]; unfold w64; omega⟩
  have k11 : F ((((d1 : Nat) : Int) % 2 ^ 8).toNat) d1 := ⟨by omega⟩
  have hne : (48 ^^^ d1) ≠ 48 := fun h => by
    have h' : 48 ^^^ (48 ^^^ d1) = 48 ^^^ 48 := by rw [h]
    rw [← Nat.xor_assoc, Nat.xor_self, Nat.zero_xor] at h'
    omega
  have hxl : (48 ^^^ d1) < 256 := Nat.xor_lt_two_pow (n := 8) (by omega) (by omega)
  have hhead : By ((48 ^^^ d1) :: l) := fun x hx => by
    rcases List.mem_cons.1 hx with rfl | h
    · exact hxl
    · exact hby x (by rw [a4]; exact List.mem_cons_of_mem _ h)
  have hlen : l.length + 1 = L := by rw [hL, a4]; rfl
  have c4 := r_Get (s := (48 ^^^ d1) :: l) (by simp; omega) hhead
  rw [pGet_head hne hhead] at c4
  have k12 : (pPut r t).map (V.u 8) = us 8 (48 :: l) := by rw [a4]; rfl
  have k13 : part (us 8 (48 :: l)) 0 none = some (.u 8 48) := rfl
  have k14 : (us 8 (48 :: l)).set 0 (.u 8 (48 ^^^ d1)) = us 8 ((48 ^^^ d1) :: l) := rfl
  have k15 : b2sV false [some (us 8 ((48 ^^^ d1) :: l))] (.hs 1 0 0 L L) = some (.s ((48 ^^^ d1) :: l)) := b2s_hs rfl (by simp; omega)
  have k16 := ixOf_nat (show 0 < L by omega)
  rw [Int.natCast_zero] at k16
  have k17 : s2bO [] (.s (pPut r t)) = some (.hs 1 0 0 L L, [some (us 8 (48 :: l))]) := by
    show some (V.hs 1 ([] : Heap).length 0 (pPut r t).length (pPut r t).length, ([] : Heap) ++ [some ((pPut r t).map (V.u 8))]) = _
    rw [k12, ← hL]; rfl
  have k18 : (0 + 1 ≤ l.length + 1) = True := by simp
  have k19 : (1 ≤ l.length + 1) = True := by simp
  have hnil : (pPut r t == []) = false := by rw [a4]; rfl
  have k20 : binV .eql (.s (pPut r t)) (.s []) = some (.b false) := by rw [Ja, hnil]
  have c5 := r_Num 2200
  have e1 : ((2200 : Nat) : Int) = 2200 := rfl
  simp only [e1] at c2 c3 c4
  have k21 := eqis 2200
  have k22 : decide ((255 : Nat) = 0) = false := rfl
  have k23 : (us 8 (48 :: l)).length = l.length + 1 := by rw [us_len]; rfl
  obtain ⟨S, hS⟩ : ∃ S, S = pPut r t := ⟨_, rfl⟩
  rw [← hS] at c1 c2 c3 k7 k17 k20 hL
  obtain ⟨A, hA⟩ : ∃ A, A = us 8 (48 :: l) := ⟨_, rfl⟩
  obtain ⟨x, hx⟩ : ∃ x, x = (48 ^^^ d1) := ⟨_, rfl⟩
  obtain ⟨A2, hA2⟩ : ∃ A, A = us 8 ((48 ^^^ d1) :: l) := ⟨_, rfl⟩
  rw [← hA2] at k14 k15
  rw [← hA] at k13 k14 k17 k23
  rw [← hx] at k14 k15 c4
  simp only [Qa,Qb,Qc,Qd,Qe,Qf,Qg,Qh,Qi,Qj,Qk,Ql,Qm,Qn,Qo,Qp,Qq,Qr,Qs,Qt,Qu,Qv,Qw,Qx,Qy,Qz,QA,QB,QC,QD,QE,QF,QG,QH,QI,QJ,QK,QL,QM,QN,QO,QP,QQ,QR,QS,QT,QU,QV,QW,QX,QY,QZ,Q0,Q1,Q2,Q3,Q4,Q5,Q6,Q7,Q8,Q9,Xa,Xb,Xc,Xd,Xe,Xf,Xg,Xh,Xi,Xj,Xk,Xl,Xm,Xn,Xo,Xp,Xq,Xr,Xs,Xt,Xu,Xv,Xw,Xx,Xy,Xz,XA,XB,XC,XD,XE,XF,XG,XH,XI,XJ,XK,XL,XM,XN,XO,XP,XQ,XR,XS,XT,XU,XV,XW,XX,XY,XZ,X0,X1,X2,X3,X4,X5,X6,X7,X8,X9,Ya,Yb,Yc,Yd,Ye,Yf,Yg,Yh,Yi,Yj,Yk,Yl,Ym,Yn,Yo,Yp,Yq,Yr,Ys,Yt,Yu,Yv,Yw,Yx,Yy,Yz,YA,YB,YC,YD,YE,YF,YG,YH,YI,YJ,YK,YL,YM,YN,YO,YP,YQ,YR,YS,YT,YU,YV,YW,YX,YY,YZ,Y0,Y1,Y2,Y3,Y4,Y5,Y6,Y7,Y8,Y9,Za,Zb,Zc,Zd,Ze,Zf,Zg,Zh,Zi,Zj,Zk,Zl,Zm,Zn,Zo,Zp,Zq,Zr,Zs,Zt,Zu,Zv,Zw,Zx,Zy,Zz,ZA,ZB,ZC,ZD,ZE,ZF,ZG,ZH,ZI,ZJ,ZK,ZL,ZM,ZN,ZO,ZP,ZQ,ZR,ZS,ZT,ZU,ZV,ZW,ZX,ZY,ZZ,Z0,Z1,Z2,Z3,Z4,Z5,Z6,Z7,Z8,Z9,Ja,Jb,Jc,Jd,Je,Jf,Jg,Jh,Ji,Jj,Jk,Jl,Jm,Jn,Jo,Jp,Jq,Jr,Js,Jt,Ju,Jv,Jw,Jx,Jy,Jz,JA,JB,JC,JD,JE,JF,JG,JH,JI,JJ,JK,JL,JM,JN,JO,JP,JQ,JR,JS,JT,JU,JV,JW,JX,JY,JZ,J0,J1,J2,J3,J4,J5,J6,J7,J8,J9,Ka,Kb,Kc,Kd,Ke,Kf,Kg,Kh,Ki,Kj,Kk,Kl,Km,Kn,Ko,Kp,Kq,Kr,Ks,Kt,Ku,Kv,Kw,Kx,Ky,Kz,KA,KB,KC,KD,KE,KF,KG,KH,KI,KJ,KK,KL,KM,KN,KO,KP,KQ,KR,KS,KT,KU,KV,KW,KX,KY,KZ,K0,K1,K2,K3,K4,K5,K6,K7,K8,K9,Ga,Gb,Gc,Gd,Ge,Gf,Gg,Gh,Gi,Gj,Gk,Gl,Gm,Gn,Gp,Gq,Gr,Gs,Gt,Gu,Gv,Gw,Gx,Gy,Gz,GA,GB,GC,GD,GE,GF,GG,GH,GI,GJ,GK,GL,GM,GN,GO,GP,GQ,GR,GS,GT,Nat.le_refl,Nat.reduceLeDiff,List.drop_zero,us_take,us_drop,is_take,is_drop,List.take_zero,gn,if_true,if_false,Nat.reduceEqDiff,Int.reduceEq,reduceCtorEq,Nat.succ_ne_self,Nat.reduceAdd,Nat.zero_add,Nat.add_zero,Nat.reduceMul,Nat.mul_one,Nat.one_mul,Nat.zero_mul,Nat.sub_zero,decide_true,decide_false,Bool.and_self,Bool.and_true,Bool.true_and,Bool.false_and,Bool.and_false,Bool.not_true,Bool.not_false,List.length_cons,List.length_nil,us_len,is_len,tb_len,dl_len,us_set,is_set,tb_set,Nat.not_lt_zero,List.nil_append,us_rep,is_rep, List.set_cons_zero, c0, c1, c2, c3, c4, c5, ← hL, ← hu, ← hc, ← hy, ← hv, ← hd, ← hx, k1.eq, k2, k3.eq, k4, k5, k6, k7, k8, k9.eq, k10.eq, k11.eq, k13, k14, k15, k16, k17, k18, k19, k20, k21, k22, k23, widev_noHp]

end Mir
