/- Chapter 4, laws as the small language runs them: quotient times divisor and the rest. Conditions: none. -/
import Derived.Test.YtbbgobliklljjaaDiv1
set_option linter.unusedVariables false
set_option linter.unusedSimpArgs false
set_option exponentiation.threshold 5000
set_option maxRecDepth 20000
namespace Mir

theorem law_DivideBack {a m : Nat} (ha : a < M) (hm : m < M) : Run T f_curvetlaw4_DivideBack [natv a, natv m] [] = some (.b true, []) := by
  rw [Run_at T _ (show T f_curvetlaw4_DivideBack = some m_curvetlaw4_DivideBack from rfl)]
  simp only [c_curvetlaw4_DivideBack]
  simp only [zero18]
  simp only [zero9]
  have c0 := r_awake
  have c6 := r_Num 0
  have c7 := r_Num 400
  have k3 := eqis 0
  by_cases h0 : m = 0
  · subst h0
    have d1 := r_Div_no ha
    have k4 : decide ((400 : Int) = 0) = false := by decide
    simp only [Qa,Qb,Qc,Qd,Qe,Qf,Qg,Qh,Qi,Qj,Qk,Ql,Qm,Qn,Qo,Qp,Qq,Qr,Qs,Qt,Qu,Qv,Qw,Qx,Qy,Qz,QA,QB,QC,QD,QE,QF,QG,QH,QI,QJ,QK,QL,QM,QN,QO,QP,QQ,QR,QS,QT,QU,QV,QW,QX,QY,QZ,Q0,Q1,Q2,Q3,Q4,Q5,Q6,Q7,Q8,Q9,Xa,Xb,Xc,Xd,Xe,Xf,Xg,Xh,Xi,Xj,Xk,Xl,Xm,Xn,Xo,Xp,Xq,Xr,Xs,Xt,Xu,Xv,Xw,Xx,Xy,Xz,XA,XB,XC,XD,XE,XF,XG,XH,XI,XJ,XK,XL,XM,XN,XO,XP,XQ,XR,XS,XT,XU,XV,XW,XX,XY,XZ,X0,X1,X2,X3,X4,X5,X6,X7,X8,X9,Ya,Yb,Yc,Yd,Ye,Yf,Yg,Yh,Yi,Yj,Yk,Yl,Ym,Yn,Yo,Yp,Yq,Yr,Ys,Yt,Yu,Yv,Yw,Yx,Yy,Yz,YA,YB,YC,YD,YE,YF,YG,YH,YI,YJ,YK,YL,YM,YN,YO,YP,YQ,YR,YS,YT,YU,YV,YW,YX,YY,YZ,Y0,Y1,Y2,Y3,Y4,Y5,Y6,Y7,Y8,Y9,Za,Zb,Zc,Zd,Ze,Zf,Zg,Zh,Zi,Zj,Zk,Zl,Zm,Zn,Zo,Zp,Zq,Zr,Zs,Zt,Zu,Zv,Zw,Zx,Zy,Zz,ZA,ZB,ZC,ZD,ZE,ZF,ZG,ZH,ZI,ZJ,ZK,ZL,ZM,ZN,ZO,ZP,ZQ,ZR,ZS,ZT,ZU,ZV,ZW,ZX,ZY,ZZ,Z0,Z1,Z2,Z3,Z4,Z5,Z6,Z7,Z8,Z9,Ja,Jb,Jc,Jd,Je,Jf,Jg,Jh,Ji,Jj,Jk,Jl,Jm,Jn,Jo,Jp,Jq,Jr,Js,Jt,Ju,Jv,Jw,Jx,Jy,Jz,JA,JB,JC,JD,JE,JF,JG,JH,JI,JJ,JK,JL,JM,JN,JO,JP,JQ,JR,JS,JT,JU,JV,JW,JX,JY,JZ,J0,J1,J2,J3,J4,J5,J6,J7,J8,J9,Ka,Kb,Kc,Kd,Ke,Kf,Kg,Kh,Ki,Kj,Kk,Kl,Km,Kn,Ko,Kp,Kq,Kr,Ks,Kt,Ku,Kv,Kw,Kx,Ky,Kz,KA,KB,KC,KD,KE,KF,KG,KH,KI,KJ,KK,KL,KM,KN,KO,KP,KQ,KR,KS,KT,KU,KV,KW,KX,KY,KZ,K0,K1,K2,K3,K4,K5,K6,K7,K8,K9,Ga,Gb,Gc,Gd,Ge,Gf,Gg,Gh,Gi,Gj,Gk,Gl,Gm,Gn,Gp,Gq,Gr,Gs,Gt,Gu,Gv,Gw,Gx,Gy,Gz,GA,GB,GC,GD,GE,GF,GG,GH,GI,GJ,GK,GL,GM,GN,GO,GP,GQ,GR,GS,GT,Nat.le_refl,Nat.reduceLeDiff,List.drop_zero,us_take,us_drop,is_take,is_drop,List.take_zero,gn,if_true,if_false,Nat.reduceEqDiff,Int.reduceEq,reduceCtorEq,Nat.succ_ne_self,Nat.reduceAdd,Nat.zero_add,Nat.add_zero,Nat.reduceMul,Nat.mul_one,Nat.one_mul,Nat.zero_mul,Nat.sub_zero,decide_true,decide_false,Bool.and_self,Bool.and_true,Bool.true_and,Bool.false_and,Bool.and_false,Bool.not_true,Bool.not_false,List.length_cons,List.length_nil,us_len,is_len,tb_len,dl_len,us_set,is_set,tb_set,Nat.not_lt_zero,List.nil_append,us_rep,is_rep, c0, c6, c7, k3, k4, d1, eq9s, natv_noHp]
  · have hmp := Nat.pos_of_ne_zero h0
    have d1 := r_Div ha hm h0
    have hdm := Nat.div_add_mod a m
    rw [Nat.mul_comm] at hdm
    have hr := Nat.mod_lt a hmp
    have hq : a / m < M := Nat.lt_of_le_of_lt (Nat.div_le_self _ _) ha
    have d2 := r_natMul hq hm
    obtain ⟨q, hq'⟩ : ∃ q, q = a / m := ⟨_, rfl⟩
    obtain ⟨r, hr'⟩ : ∃ q, q = a % m := ⟨_, rfl⟩
    rw [← hq', ← hr'] at d1 hdm
    rw [← hq'] at d2 hq
    rw [← hr'] at hr
    obtain ⟨z, hz'⟩ : ∃ z, z = q * m := ⟨_, rfl⟩
    rw [← hz'] at d2 hdm
    have hz : z < M := by omega
    have d3 := r_natAdd (x := z) (y := r) hz (by omega)
    have kc : decide (M ≤ z + r) = false := decide_eq_false (by omega)
    rw [kc, Nat.mod_eq_of_lt (show z + r < M by omega), hdm] at d3
    have d4 := r_natCmp (x := r) (y := m) (by omega) hm
    have e1 : cmpI r m = -1 := by unfold cmpI; rw [if_pos hr]
    rw [e1] at d4
    have k5 : decide ((-1 : Int) < 0) = true := by decide
    obtain ⟨p, hp⟩ : ∃ p : Nat → Nat, ∀ i, p i = z / 2 ^ (64 * i) % 2 ^ 64 := ⟨_, fun _ => rfl⟩
    have hl : dl 64 18 z = tb 18 p := tb_congr fun j hj => (hp j).symm
    have hhi : ∀ i, 9 ≤ i → p i = 0 := fun i hi => by rw [hp]; exact word_zero (M64 ▸ hz) hi
    simp only [widev, hl] at d2
    simp only [Qa,Qb,Qc,Qd,Qe,Qf,Qg,Qh,Qi,Qj,Qk,Ql,Qm,Qn,Qo,Qp,Qq,Qr,Qs,Qt,Qu,Qv,Qw,Qx,Qy,Qz,QA,QB,QC,QD,QE,QF,QG,QH,QI,QJ,QK,QL,QM,QN,QO,QP,QQ,QR,QS,QT,QU,QV,QW,QX,QY,QZ,Q0,Q1,Q2,Q3,Q4,Q5,Q6,Q7,Q8,Q9,Xa,Xb,Xc,Xd,Xe,Xf,Xg,Xh,Xi,Xj,Xk,Xl,Xm,Xn,Xo,Xp,Xq,Xr,Xs,Xt,Xu,Xv,Xw,Xx,Xy,Xz,XA,XB,XC,XD,XE,XF,XG,XH,XI,XJ,XK,XL,XM,XN,XO,XP,XQ,XR,XS,XT,XU,XV,XW,XX,XY,XZ,X0,X1,X2,X3,X4,X5,X6,X7,X8,X9,Ya,Yb,Yc,Yd,Ye,Yf,Yg,Yh,Yi,Yj,Yk,Yl,Ym,Yn,Yo,Yp,Yq,Yr,Ys,Yt,Yu,Yv,Yw,Yx,Yy,Yz,YA,YB,YC,YD,YE,YF,YG,YH,YI,YJ,YK,YL,YM,YN,YO,YP,YQ,YR,YS,YT,YU,YV,YW,YX,YY,YZ,Y0,Y1,Y2,Y3,Y4,Y5,Y6,Y7,Y8,Y9,Za,Zb,Zc,Zd,Ze,Zf,Zg,Zh,Zi,Zj,Zk,Zl,Zm,Zn,Zo,Zp,Zq,Zr,Zs,Zt,Zu,Zv,Zw,Zx,Zy,Zz,ZA,ZB,ZC,ZD,ZE,ZF,ZG,ZH,ZI,ZJ,ZK,ZL,ZM,ZN,ZO,ZP,ZQ,ZR,ZS,ZT,ZU,ZV,ZW,ZX,ZY,ZZ,Z0,Z1,Z2,Z3,Z4,Z5,Z6,Z7,Z8,Z9,Ja,Jb,Jc,Jd,Je,Jf,Jg,Jh,Ji,Jj,Jk,Jl,Jm,Jn,Jo,Jp,Jq,Jr,Js,Jt,Ju,Jv,Jw,Jx,Jy,Jz,JA,JB,JC,JD,JE,JF,JG,JH,JI,JJ,JK,JL,JM,JN,JO,JP,JQ,JR,JS,JT,JU,JV,JW,JX,JY,JZ,J0,J1,J2,J3,J4,J5,J6,J7,J8,J9,Ka,Kb,Kc,Kd,Ke,Kf,Kg,Kh,Ki,Kj,Kk,Kl,Km,Kn,Ko,Kp,Kq,Kr,Ks,Kt,Ku,Kv,Kw,Kx,Ky,Kz,KA,KB,KC,KD,KE,KF,KG,KH,KI,KJ,KK,KL,KM,KN,KO,KP,KQ,KR,KS,KT,KU,KV,KW,KX,KY,KZ,K0,K1,K2,K3,K4,K5,K6,K7,K8,K9,Ga,Gb,Gc,Gd,Ge,Gf,Gg,Gh,Gi,Gj,Gk,Gl,Gm,Gn,Gp,Gq,Gr,Gs,Gt,Gu,Gv,Gw,Gx,Gy,Gz,GA,GB,GC,GD,GE,GF,GG,GH,GI,GJ,GK,GL,GM,GN,GO,GP,GQ,GR,GS,GT,Nat.le_refl,Nat.reduceLeDiff,List.drop_zero,us_take,us_drop,is_take,is_drop,List.take_zero,gn,if_true,if_false,Nat.reduceEqDiff,Int.reduceEq,reduceCtorEq,Nat.succ_ne_self,Nat.reduceAdd,Nat.zero_add,Nat.add_zero,Nat.reduceMul,Nat.mul_one,Nat.one_mul,Nat.zero_mul,Nat.sub_zero,decide_true,decide_false,Bool.and_self,Bool.and_true,Bool.true_and,Bool.false_and,Bool.and_false,Bool.not_true,Bool.not_false,List.length_cons,List.length_nil,us_len,is_len,tb_len,dl_len,us_set,is_set,tb_set,Nat.not_lt_zero,List.nil_append,us_rep,is_rep, c0, c6, c7, k3, d1, d2, natv_noHp]
    rw [loop_use T (fun i => ⟨[(2, .vr (us 64 (dl 64 9 a)) 0), (3, .vr (us 64 (dl 64 9 m)) 0), (6, .loc (us 64 (dl 64 9 r))), (8, .loc (us 64 (tb 18 p))), (9, .loc (us 64 (tb 9 fun j => if j < i then p j else 0))), (10, .i (i : Int))], []⟩) 9
      (.exit 0, ⟨[(2, .vr (us 64 (dl 64 9 a)) 0), (3, .vr (us 64 (dl 64 9 m)) 0), (6, .loc (us 64 (dl 64 9 r))), (9, .loc (us 64 (dl 64 9 z)))], []⟩) ?h0 (by simp) ?hs ?hn]
    · simp only [Qa,Qb,Qc,Qd,Qe,Qf,Qg,Qh,Qi,Qj,Qk,Ql,Qm,Qn,Qo,Qp,Qq,Qr,Qs,Qt,Qu,Qv,Qw,Qx,Qy,Qz,QA,QB,QC,QD,QE,QF,QG,QH,QI,QJ,QK,QL,QM,QN,QO,QP,QQ,QR,QS,QT,QU,QV,QW,QX,QY,QZ,Q0,Q1,Q2,Q3,Q4,Q5,Q6,Q7,Q8,Q9,Xa,Xb,Xc,Xd,Xe,Xf,Xg,Xh,Xi,Xj,Xk,Xl,Xm,Xn,Xo,Xp,Xq,Xr,Xs,Xt,Xu,Xv,Xw,Xx,Xy,Xz,XA,XB,XC,XD,XE,XF,XG,XH,XI,XJ,XK,XL,XM,XN,XO,XP,XQ,XR,XS,XT,XU,XV,XW,XX,XY,XZ,X0,X1,X2,X3,X4,X5,X6,X7,X8,X9,Ya,Yb,Yc,Yd,Ye,Yf,Yg,Yh,Yi,Yj,Yk,Yl,Ym,Yn,Yo,Yp,Yq,Yr,Ys,Yt,Yu,Yv,Yw,Yx,Yy,Yz,YA,YB,YC,YD,YE,YF,YG,YH,YI,YJ,YK,YL,YM,YN,YO,YP,YQ,YR,YS,YT,YU,YV,YW,YX,YY,YZ,Y0,Y1,Y2,Y3,Y4,Y5,Y6,Y7,Y8,Y9,Za,Zb,Zc,Zd,Ze,Zf,Zg,Zh,Zi,Zj,Zk,Zl,Zm,Zn,Zo,Zp,Zq,Zr,Zs,Zt,Zu,Zv,Zw,Zx,Zy,Zz,ZA,ZB,ZC,ZD,ZE,ZF,ZG,ZH,ZI,ZJ,ZK,ZL,ZM,ZN,ZO,ZP,ZQ,ZR,ZS,ZT,ZU,ZV,ZW,ZX,ZY,ZZ,Z0,Z1,Z2,Z3,Z4,Z5,Z6,Z7,Z8,Z9,Ja,Jb,Jc,Jd,Je,Jf,Jg,Jh,Ji,Jj,Jk,Jl,Jm,Jn,Jo,Jp,Jq,Jr,Js,Jt,Ju,Jv,Jw,Jx,Jy,Jz,JA,JB,JC,JD,JE,JF,JG,JH,JI,JJ,JK,JL,JM,JN,JO,JP,JQ,JR,JS,JT,JU,JV,JW,JX,JY,JZ,J0,J1,J2,J3,J4,J5,J6,J7,J8,J9,Ka,Kb,Kc,Kd,Ke,Kf,Kg,Kh,Ki,Kj,Kk,Kl,Km,Kn,Ko,Kp,Kq,Kr,Ks,Kt,Ku,Kv,Kw,Kx,Ky,Kz,KA,KB,KC,KD,KE,KF,KG,KH,KI,KJ,KK,KL,KM,KN,KO,KP,KQ,KR,KS,KT,KU,KV,KW,KX,KY,KZ,K0,K1,K2,K3,K4,K5,K6,K7,K8,K9,Ga,Gb,Gc,Gd,Ge,Gf,Gg,Gh,Gi,Gj,Gk,Gl,Gm,Gn,Gp,Gq,Gr,Gs,Gt,Gu,Gv,Gw,Gx,Gy,Gz,GA,GB,GC,GD,GE,GF,GG,GH,GI,GJ,GK,GL,GM,GN,GO,GP,GQ,GR,GS,GT,Nat.le_refl,Nat.reduceLeDiff,List.drop_zero,us_take,us_drop,is_take,is_drop,List.take_zero,gn,if_true,if_false,Nat.reduceEqDiff,Int.reduceEq,reduceCtorEq,Nat.succ_ne_self,Nat.reduceAdd,Nat.zero_add,Nat.add_zero,Nat.reduceMul,Nat.mul_one,Nat.one_mul,Nat.zero_mul,Nat.sub_zero,decide_true,decide_false,Bool.and_self,Bool.and_true,Bool.true_and,Bool.false_and,Bool.and_false,Bool.not_true,Bool.not_false,List.length_cons,List.length_nil,us_len,is_len,tb_len,dl_len,us_set,is_set,tb_set,Nat.not_lt_zero,List.nil_append,us_rep,is_rep, d3, d4, k5, eq9s, natv_noHp]
    · have : dl 64 9 0 = tb 9 (fun j => if j < 0 then p j else 0) := tb_congr fun j hj => by
        rw [if_neg (by omega), Nat.zero_div, Nat.zero_mod]
      rw [← this]; rfl
    · intro i hi
      obtain ⟨i9, hi9⟩ : ∃ a, a = 9 + i := ⟨_, rfl⟩
      have k1 : decide ((i : Int) < 9) = true := by simp; omega
      have k2 : F (w64 ((i : Int) + 1)) ((i + 1 : Nat) : Int) := ⟨by unfold w64; omega⟩
      have k3 : F (w64 (9 + (i : Int))) (i9 : Int) := ⟨by unfold w64; omega⟩
      have k4 := ixOf_nat hi
      have k5 := ixOf_nat (show i < 18 by omega)
      have k6 := ixOf_nat (show i9 < 18 by omega)
      have k7 := part_tb (w := 64) p i (show i < 18 by omega)
      have k8 := part_tb (w := 64) p i9 (show i9 < 18 by omega)
      rw [hhi i9 (by omega)] at k8
      have k9 : (i + 1 ≤ 9) = True := by simp; omega
      have k10 := tb_step (n := 9) (i := i) p 0
      have k11 : decide ((0 : Nat) = 0) = true := by simp
      simp only [Qa,Qb,Qc,Qd,Qe,Qf,Qg,Qh,Qi,Qj,Qk,Ql,Qm,Qn,Qo,Qp,Qq,Qr,Qs,Qt,Qu,Qv,Qw,Qx,Qy,Qz,QA,QB,QC,QD,QE,QF,QG,QH,QI,QJ,QK,QL,QM,QN,QO,QP,QQ,QR,QS,QT,QU,QV,QW,QX,QY,QZ,Q0,Q1,Q2,Q3,Q4,Q5,Q6,Q7,Q8,Q9,Xa,Xb,Xc,Xd,Xe,Xf,Xg,Xh,Xi,Xj,Xk,Xl,Xm,Xn,Xo,Xp,Xq,Xr,Xs,Xt,Xu,Xv,Xw,Xx,Xy,Xz,XA,XB,XC,XD,XE,XF,XG,XH,XI,XJ,XK,XL,XM,XN,XO,XP,XQ,XR,XS,XT,XU,XV,XW,XX,XY,XZ,X0,X1,X2,X3,X4,X5,X6,X7,X8,X9,Ya,Yb,Yc,Yd,Ye,Yf,Yg,Yh,Yi,Yj,Yk,Yl,Ym,Yn,Yo,Yp,Yq,Yr,Ys,Yt,Yu,Yv,Yw,Yx,Yy,Yz,YA,YB,YC,YD,YE,YF,YG,YH,YI,YJ,YK,YL,YM,YN,YO,YP,YQ,YR,YS,YT,YU,YV,YW,YX,YY,YZ,Y0,Y1,Y2,Y3,Y4,Y5,Y6,Y7,Y8,Y9,Za,Zb,Zc,Zd,Ze,Zf,Zg,Zh,Zi,Zj,Zk,Zl,Zm,Zn,Zo,Zp,Zq,Zr,Zs,Zt,Zu,Zv,Zw,Zx,Zy,Zz,ZA,ZB,ZC,ZD,ZE,ZF,ZG,ZH,ZI,ZJ,ZK,ZL,ZM,ZN,ZO,ZP,ZQ,ZR,ZS,ZT,ZU,ZV,ZW,ZX,ZY,ZZ,Z0,Z1,Z2,Z3,Z4,Z5,Z6,Z7,Z8,Z9,Ja,Jb,Jc,Jd,Je,Jf,Jg,Jh,Ji,Jj,Jk,Jl,Jm,Jn,Jo,Jp,Jq,Jr,Js,Jt,Ju,Jv,Jw,Jx,Jy,Jz,JA,JB,JC,JD,JE,JF,JG,JH,JI,JJ,JK,JL,JM,JN,JO,JP,JQ,JR,JS,JT,JU,JV,JW,JX,JY,JZ,J0,J1,J2,J3,J4,J5,J6,J7,J8,J9,Ka,Kb,Kc,Kd,Ke,Kf,Kg,Kh,Ki,Kj,Kk,Kl,Km,Kn,Ko,Kp,Kq,Kr,Ks,Kt,Ku,Kv,Kw,Kx,Ky,Kz,KA,KB,KC,KD,KE,KF,KG,KH,KI,KJ,KK,KL,KM,KN,KO,KP,KQ,KR,KS,KT,KU,KV,KW,KX,KY,KZ,K0,K1,K2,K3,K4,K5,K6,K7,K8,K9,Ga,Gb,Gc,Gd,Ge,Gf,Gg,Gh,Gi,Gj,Gk,Gl,Gm,Gn,Gp,Gq,Gr,Gs,Gt,Gu,Gv,Gw,Gx,Gy,Gz,GA,GB,GC,GD,GE,GF,GG,GH,GI,GJ,GK,GL,GM,GN,GO,GP,GQ,GR,GS,GT,Nat.le_refl,Nat.reduceLeDiff,List.drop_zero,us_take,us_drop,is_take,is_drop,List.take_zero,gn,if_true,if_false,Nat.reduceEqDiff,Int.reduceEq,reduceCtorEq,Nat.succ_ne_self,Nat.reduceAdd,Nat.zero_add,Nat.add_zero,Nat.reduceMul,Nat.mul_one,Nat.one_mul,Nat.zero_mul,Nat.sub_zero,decide_true,decide_false,Bool.and_self,Bool.and_true,Bool.true_and,Bool.false_and,Bool.and_false,Bool.not_true,Bool.not_false,List.length_cons,List.length_nil,us_len,is_len,tb_len,dl_len,us_set,is_set,tb_set,Nat.not_lt_zero,List.nil_append,us_rep,is_rep, k1, k2.eq, k3.eq, k4, k5, k6, k7, k8, k9, k10, k11]
    · have k1 : decide (((9 : Nat) : Int) < 9) = false := by simp
      have k2 : tb 9 (fun j => if j < 9 then p j else 0) = dl 64 9 z := tb_congr fun j hj => by rw [if_pos hj, hp]
      simp only [Qa,Qb,Qc,Qd,Qe,Qf,Qg,Qh,Qi,Qj,Qk,Ql,Qm,Qn,Qo,Qp,Qq,Qr,Qs,Qt,Qu,Qv,Qw,Qx,Qy,Qz,QA,QB,QC,QD,QE,QF,QG,QH,QI,QJ,QK,QL,QM,QN,QO,QP,QQ,QR,QS,QT,QU,QV,QW,QX,QY,QZ,Q0,Q1,Q2,Q3,Q4,Q5,Q6,Q7,Q8,Q9,Xa,Xb,Xc,Xd,Xe,Xf,Xg,Xh,Xi,Xj,Xk,Xl,Xm,Xn,Xo,Xp,Xq,Xr,Xs,Xt,Xu,Xv,Xw,Xx,Xy,Xz,XA,XB,XC,XD,XE,XF,XG,XH,XI,XJ,XK,XL,XM,XN,XO,XP,XQ,XR,XS,XT,XU,XV,XW,XX,XY,XZ,X0,X1,X2,X3,X4,X5,X6,X7,X8,X9,Ya,Yb,Yc,Yd,Ye,Yf,Yg,Yh,Yi,Yj,Yk,Yl,Ym,Yn,Yo,Yp,Yq,Yr,Ys,Yt,Yu,Yv,Yw,Yx,Yy,Yz,YA,YB,YC,YD,YE,YF,YG,YH,YI,YJ,YK,YL,YM,YN,YO,YP,YQ,YR,YS,YT,YU,YV,YW,YX,YY,YZ,Y0,Y1,Y2,Y3,Y4,Y5,Y6,Y7,Y8,Y9,Za,Zb,Zc,Zd,Ze,Zf,Zg,Zh,Zi,Zj,Zk,Zl,Zm,Zn,Zo,Zp,Zq,Zr,Zs,Zt,Zu,Zv,Zw,Zx,Zy,Zz,ZA,ZB,ZC,ZD,ZE,ZF,ZG,ZH,ZI,ZJ,ZK,ZL,ZM,ZN,ZO,ZP,ZQ,ZR,ZS,ZT,ZU,ZV,ZW,ZX,ZY,ZZ,Z0,Z1,Z2,Z3,Z4,Z5,Z6,Z7,Z8,Z9,Ja,Jb,Jc,Jd,Je,Jf,Jg,Jh,Ji,Jj,Jk,Jl,Jm,Jn,Jo,Jp,Jq,Jr,Js,Jt,Ju,Jv,Jw,Jx,Jy,Jz,JA,JB,JC,JD,JE,JF,JG,JH,JI,JJ,JK,JL,JM,JN,JO,JP,JQ,JR,JS,JT,JU,JV,JW,JX,JY,JZ,J0,J1,J2,J3,J4,J5,J6,J7,J8,J9,Ka,Kb,Kc,Kd,Ke,Kf,Kg,Kh,Ki,Kj,Kk,Kl,Km,Kn,Ko,Kp,Kq,Kr,Ks,Kt,Ku,Kv,Kw,Kx,Ky,Kz,KA,KB,KC,KD,KE,KF,KG,KH,KI,KJ,KK,KL,KM,KN,KO,KP,KQ,KR,KS,KT,KU,KV,KW,KX,KY,KZ,K0,K1,K2,K3,K4,K5,K6,K7,K8,K9,Ga,Gb,Gc,Gd,Ge,Gf,Gg,Gh,Gi,Gj,Gk,Gl,Gm,Gn,Gp,Gq,Gr,Gs,Gt,Gu,Gv,Gw,Gx,Gy,Gz,GA,GB,GC,GD,GE,GF,GG,GH,GI,GJ,GK,GL,GM,GN,GO,GP,GQ,GR,GS,GT,Nat.le_refl,Nat.reduceLeDiff,List.drop_zero,us_take,us_drop,is_take,is_drop,List.take_zero,gn,if_true,if_false,Nat.reduceEqDiff,Int.reduceEq,reduceCtorEq,Nat.succ_ne_self,Nat.reduceAdd,Nat.zero_add,Nat.add_zero,Nat.reduceMul,Nat.mul_one,Nat.one_mul,Nat.zero_mul,Nat.sub_zero,decide_true,decide_false,Bool.and_self,Bool.and_true,Bool.true_and,Bool.false_and,Bool.and_false,Bool.not_true,Bool.not_false,List.length_cons,List.length_nil,us_len,is_len,tb_len,dl_len,us_set,is_set,tb_set,Nat.not_lt_zero,List.nil_append,us_rep,is_rep, k1, k2]

theorem cpyw_step {kp : List Nat} {e : Env} {h : Heap} {r : List MO} {x y : Opd} {L m : List V} (h1 : ev e x = .ls 1 11 0 9 18) (h2 : get e 11 = .loc L) (h3 : ev e y = .vs 9 m) (hm : m.length = 9) (hc : m.all cellV = true) (hL : L.length = 18) :
    rg T kp e h (⟨some 38, none, .cpyl 11 1 [] x y⟩ :: r) = rg T kp ((38, .i 9) :: (11, .loc (m ++ L.drop 9)) :: e) h r := by
  rw [rg_step]
  have e1 : m.take 9 = m := List.take_of_length_le (by omega)
  have e2 : sliceCellsL e h [] (.vs 9 m) = some m := rfl
  have e3 : lenV (.vs 9 m) = some 9 := rfl
  have e4 : stepO (Run T) ⟨some 38, none, .cpyl 11 1 [] x y⟩ ⟨e, h⟩ = some ⟨(38, .i 9) :: (11, .loc (m ++ L.drop 9)) :: e, h⟩ := by
    simp only [stepO, doO, h1, h2, h3, e2, e3]
    rw [if_pos ⟨trivial, trivial⟩, if_pos ⟨by omega, hc, by omega, by omega⟩]
    simp only [Nat.min_self, Nat.mul_one, List.take_zero, List.nil_append, Nat.zero_add, e1]
    rfl
  rw [e4]
theorem widen {a : Nat} (ha : a < M) : us 64 (dl 64 9 a) ++ (us 64 (dl 64 18 0)).drop 9 = us 64 (dl 64 18 a) := by
  have h0 : ∀ i, 9 ≤ i → a / 2 ^ (64 * i) % 2 ^ 64 = 0 := fun i hi => word_zero (M64 ▸ ha) hi
  have e1 : dl 64 18 a = dl 64 9 a ++ (dl 64 18 0).drop 9 := by
    have : ∀ f : Nat → Nat, tb 18 f = [f 0, f 1, f 2, f 3, f 4, f 5, f 6, f 7, f 8, f 9, f 10, f 11, f 12, f 13, f 14, f 15, f 16, f 17] := fun _ => rfl
    simp only [dl]
    rw [this, this, tb9, h0 9 (by omega), h0 10 (by omega), h0 11 (by omega), h0 12 (by omega), h0 13 (by omega), h0 14 (by omega), h0 15 (by omega), h0 16 (by omega), h0 17 (by omega)]
    simp
  rw [e1]
  simp only [us, List.map_append, List.map_drop]

theorem law_DivideWide {a b m : Nat} (ha : a < M) (hb : b < M) (hm : m < M) : Run T f_curvetlaw4_DivideWide [natv a, natv b, natv m] [] = some (.b true, []) := by
  rw [Run_at T _ (show T f_curvetlaw4_DivideWide = some m_curvetlaw4_DivideWide from rfl)]
  simp only [c_curvetlaw4_DivideWide]
  simp only [zero18]
  simp only [zero9]
  have c0 := r_awake
  have c6 := r_Num 0
  have c7 := r_Num 400
  have k3 := eqis 0
  have k4 := eqis 400
  have i9 : ixOf 19 (.i 9) = some 9 := rfl
  have t9 : List.take 9 (dl 64 9 a) = dl 64 9 a := List.take_of_length_le (by rw [dl_len]; omega)
  have w1 := widen ha
  have cp : ∀ {kp : List Nat} {e : Env} {h : Heap} {r : List MO} {x y : Opd}, ev e x = .ls 1 11 0 9 18 → get e 11 = .loc (us 64 (dl 64 18 0)) → ev e y = .vs 9 (us 64 (dl 64 9 a)) → rg T kp e h (⟨some 38, none, .cpyl 11 1 [] x y⟩ :: r) = rg T kp ((38, .i 9) :: (11, .loc (us 64 (dl 64 18 a))) :: e) h r := fun h1 h2 h3 => by
    rw [← w1]
    exact cpyw_step h1 h2 h3 (by rw [us_len, dl_len]) (us_cellV _ _) (by rw [us_len, dl_len])
  have hM : M ≤ M * M := Nat.le_mul_of_pos_left _ hM0
  have d1 := r_natMul ha hb
  have hab : a * b < M * M := Nat.mul_lt_mul'' ha hb
  have c5 := eq9 hm hM0
  by_cases h0 : m = 0
  · subst h0
    have k1 : decide ((0 : Nat) = 0) = true := rfl
    rw [k1] at c5
    have d2 := r_Mod_no (W := a * b)
    have d3 := r_MulMod_no (a := a) (b := b)
    have d4 := r_Mod_no (W := a)
    have d5 := r_Div_no ha
    obtain ⟨W, hW⟩ : ∃ W, W = a * b := ⟨_, rfl⟩
    rw [← hW] at d1 d2
    simp only [Qa,Qb,Qc,Qd,Qe,Qf,Qg,Qh,Qi,Qj,Qk,Ql,Qm,Qn,Qo,Qp,Qq,Qr,Qs,Qt,Qu,Qv,Qw,Qx,Qy,Qz,QA,QB,QC,QD,QE,QF,QG,QH,QI,QJ,QK,QL,QM,QN,QO,QP,QQ,QR,QS,QT,QU,QV,QW,QX,QY,QZ,Q0,Q1,Q2,Q3,Q4,Q5,Q6,Q7,Q8,Q9,Xa,Xb,Xc,Xd,Xe,Xf,Xg,Xh,Xi,Xj,Xk,Xl,Xm,Xn,Xo,Xp,Xq,Xr,Xs,Xt,Xu,Xv,Xw,Xx,Xy,Xz,XA,XB,XC,XD,XE,XF,XG,XH,XI,XJ,XK,XL,XM,XN,XO,XP,XQ,XR,XS,XT,XU,XV,XW,XX,XY,XZ,X0,X1,X2,X3,X4,X5,X6,X7,X8,X9,Ya,Yb,Yc,Yd,Ye,Yf,Yg,Yh,Yi,Yj,Yk,Yl,Ym,Yn,Yo,Yp,Yq,Yr,Ys,Yt,Yu,Yv,Yw,Yx,Yy,Yz,YA,YB,YC,YD,YE,YF,YG,YH,YI,YJ,YK,YL,YM,YN,YO,YP,YQ,YR,YS,YT,YU,YV,YW,YX,YY,YZ,Y0,Y1,Y2,Y3,Y4,Y5,Y6,Y7,Y8,Y9,Za,Zb,Zc,Zd,Ze,Zf,Zg,Zh,Zi,Zj,Zk,Zl,Zm,Zn,Zo,Zp,Zq,Zr,Zs,Zt,Zu,Zv,Zw,Zx,Zy,Zz,ZA,ZB,ZC,ZD,ZE,ZF,ZG,ZH,ZI,ZJ,ZK,ZL,ZM,ZN,ZO,ZP,ZQ,ZR,ZS,ZT,ZU,ZV,ZW,ZX,ZY,ZZ,Z0,Z1,Z2,Z3,Z4,Z5,Z6,Z7,Z8,Z9,Ja,Jb,Jc,Jd,Je,Jf,Jg,Jh,Ji,Jj,Jk,Jl,Jm,Jn,Jo,Jp,Jq,Jr,Js,Jt,Ju,Jv,Jw,Jx,Jy,Jz,JA,JB,JC,JD,JE,JF,JG,JH,JI,JJ,JK,JL,JM,JN,JO,JP,JQ,JR,JS,JT,JU,JV,JW,JX,JY,JZ,J0,J1,J2,J3,J4,J5,J6,J7,J8,J9,Ka,Kb,Kc,Kd,Ke,Kf,Kg,Kh,Ki,Kj,Kk,Kl,Km,Kn,Ko,Kp,Kq,Kr,Ks,Kt,Ku,Kv,Kw,Kx,Ky,Kz,KA,KB,KC,KD,KE,KF,KG,KH,KI,KJ,KK,KL,KM,KN,KO,KP,KQ,KR,KS,KT,KU,KV,KW,KX,KY,KZ,K0,K1,K2,K3,K4,K5,K6,K7,K8,K9,Ga,Gb,Gc,Gd,Ge,Gf,Gg,Gh,Gi,Gj,Gk,Gl,Gm,Gn,Gp,Gq,Gr,Gs,Gt,Gu,Gv,Gw,Gx,Gy,Gz,GA,GB,GC,GD,GE,GF,GG,GH,GI,GJ,GK,GL,GM,GN,GO,GP,GQ,GR,GS,GT,Nat.le_refl,Nat.reduceLeDiff,List.drop_zero,us_take,us_drop,is_take,is_drop,List.take_zero,gn,if_true,if_false,Nat.reduceEqDiff,Int.reduceEq,reduceCtorEq,Nat.succ_ne_self,Nat.reduceAdd,Nat.zero_add,Nat.add_zero,Nat.reduceMul,Nat.mul_one,Nat.one_mul,Nat.zero_mul,Nat.sub_zero,decide_true,decide_false,Bool.and_self,Bool.and_true,Bool.true_and,Bool.false_and,Bool.and_false,Bool.not_true,Bool.not_false,List.length_cons,List.length_nil,us_len,is_len,tb_len,dl_len,us_set,is_set,tb_set,Nat.not_lt_zero,List.nil_append,us_rep,is_rep, c0, c5, c6, c7, k3, k4, i9, t9, cp, d1, d2, d3, d4, d5, natv_noHp]
  · have k1 : decide (m = 0) = false := decide_eq_false h0
    rw [k1] at c5
    have d2 := r_Mod hab hm h0
    have d3 := r_MulMod ha hb hm h0
    have d4 := r_Mod (W := a) (by omega) hm h0
    have d5 := r_Div ha hm h0
    have d6 := r_natCmp (x := a * b % m) (y := m) (mod_M hm h0) hm
    have e1 : cmpI (a * b % m) m = -1 := by unfold cmpI; rw [if_pos (Nat.mod_lt _ (Nat.pos_of_ne_zero h0))]
    rw [e1] at d6
    have k5 : decide ((-1 : Int) < 0) = true := by decide
    obtain ⟨W, hW⟩ : ∃ W, W = a * b := ⟨_, rfl⟩
    rw [← hW] at d1 d2 d3 d6
    obtain ⟨p, hp⟩ : ∃ z, z = W % m := ⟨_, rfl⟩
    obtain ⟨q, hq⟩ : ∃ z, z = a % m := ⟨_, rfl⟩
    obtain ⟨g, hg⟩ : ∃ z, z = a / m := ⟨_, rfl⟩
    rw [← hp] at d2 d3 d6
    rw [← hq] at d4 d5
    rw [← hg] at d5
    simp only [Qa,Qb,Qc,Qd,Qe,Qf,Qg,Qh,Qi,Qj,Qk,Ql,Qm,Qn,Qo,Qp,Qq,Qr,Qs,Qt,Qu,Qv,Qw,Qx,Qy,Qz,QA,QB,QC,QD,QE,QF,QG,QH,QI,QJ,QK,QL,QM,QN,QO,QP,QQ,QR,QS,QT,QU,QV,QW,QX,QY,QZ,Q0,Q1,Q2,Q3,Q4,Q5,Q6,Q7,Q8,Q9,Xa,Xb,Xc,Xd,Xe,Xf,Xg,Xh,Xi,Xj,Xk,Xl,Xm,Xn,Xo,Xp,Xq,Xr,Xs,Xt,Xu,Xv,Xw,Xx,Xy,Xz,XA,XB,XC,XD,XE,XF,XG,XH,XI,XJ,XK,XL,XM,XN,XO,XP,XQ,XR,XS,XT,XU,XV,XW,XX,XY,XZ,X0,X1,X2,X3,X4,X5,X6,X7,X8,X9,Ya,Yb,Yc,Yd,Ye,Yf,Yg,Yh,Yi,Yj,Yk,Yl,Ym,Yn,Yo,Yp,Yq,Yr,Ys,Yt,Yu,Yv,Yw,Yx,Yy,Yz,YA,YB,YC,YD,YE,YF,YG,YH,YI,YJ,YK,YL,YM,YN,YO,YP,YQ,YR,YS,YT,YU,YV,YW,YX,YY,YZ,Y0,Y1,Y2,Y3,Y4,Y5,Y6,Y7,Y8,Y9,Za,Zb,Zc,Zd,Ze,Zf,Zg,Zh,Zi,Zj,Zk,Zl,Zm,Zn,Zo,Zp,Zq,Zr,Zs,Zt,Zu,Zv,Zw,Zx,Zy,Zz,ZA,ZB,ZC,ZD,ZE,ZF,ZG,ZH,ZI,ZJ,ZK,ZL,ZM,ZN,ZO,ZP,ZQ,ZR,ZS,ZT,ZU,ZV,ZW,ZX,ZY,ZZ,Z0,Z1,Z2,Z3,Z4,Z5,Z6,Z7,Z8,Z9,Ja,Jb,Jc,Jd,Je,Jf,Jg,Jh,Ji,Jj,Jk,Jl,Jm,Jn,Jo,Jp,Jq,Jr,Js,Jt,Ju,Jv,Jw,Jx,Jy,Jz,JA,JB,JC,JD,JE,JF,JG,JH,JI,JJ,JK,JL,JM,JN,JO,JP,JQ,JR,JS,JT,JU,JV,JW,JX,JY,JZ,J0,J1,J2,J3,J4,J5,J6,J7,J8,J9,Ka,Kb,Kc,Kd,Ke,Kf,Kg,Kh,Ki,Kj,Kk,Kl,Km,Kn,Ko,Kp,Kq,Kr,Ks,Kt,Ku,Kv,Kw,Kx,Ky,Kz,KA,KB,KC,KD,KE,KF,KG,KH,KI,KJ,KK,KL,KM,KN,KO,KP,KQ,KR,KS,KT,KU,KV,KW,KX,KY,KZ,K0,K1,K2,K3,K4,K5,K6,K7,K8,K9,Ga,Gb,Gc,Gd,Ge,Gf,Gg,Gh,Gi,Gj,Gk,Gl,Gm,Gn,Gp,Gq,Gr,Gs,Gt,Gu,Gv,Gw,Gx,Gy,Gz,GA,GB,GC,GD,GE,GF,GG,GH,GI,GJ,GK,GL,GM,GN,GO,GP,GQ,GR,GS,GT,Nat.le_refl,Nat.reduceLeDiff,List.drop_zero,us_take,us_drop,is_take,is_drop,List.take_zero,gn,if_true,if_false,Nat.reduceEqDiff,Int.reduceEq,reduceCtorEq,Nat.succ_ne_self,Nat.reduceAdd,Nat.zero_add,Nat.add_zero,Nat.reduceMul,Nat.mul_one,Nat.one_mul,Nat.zero_mul,Nat.sub_zero,decide_true,decide_false,Bool.and_self,Bool.and_true,Bool.true_and,Bool.false_and,Bool.and_false,Bool.not_true,Bool.not_false,List.length_cons,List.length_nil,us_len,is_len,tb_len,dl_len,us_set,is_set,tb_set,Nat.not_lt_zero,List.nil_append,us_rep,is_rep, c0, c5, c6, c7, k3, k4, k5, i9, t9, cp, d1, d2, d3, d4, d5, d6, eq9s, natv_noHp]

end Mir
