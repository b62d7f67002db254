/- Chapter 4: what every program answers that is one. Conditions: none. -/
import Derived.Test.YtbbgobliklljjaaDivH
import Derived.Test.YtbbgobliklljjaaAllN
import Derived.KernelRfl
set_option linter.unusedVariables false
set_option linter.unusedSimpArgs false
set_option exponentiation.threshold 5000
set_option maxRecDepth 20000
namespace Mir
theorem r_inv37 : Run T f_divide_Inverse [natv 3, natv 7] [] = some (.tup [natv 5, .i 0], []) := (Run_some T).2 ⟨30, by kernel_rfl⟩
theorem r_inv39 : Run T f_divide_Inverse [natv 3, natv 9] [] = some (.tup [natv 0, .i 401], []) := (Run_some T).2 ⟨30, by kernel_rfl⟩
theorem r_awake : Run T f_curvetlaw4_awake [] [] = some (.b true, []) := by
  rw [Run_at T _ (show T f_curvetlaw4_awake = some m_curvetlaw4_awake from rfl)]
  simp only [c_curvetlaw4_awake, zero9]
  have o1 : ∀ x, x < 2 ^ 64 → Run T f_curvetlaw0_One [.u 64 x] [] = some (natv x, []) := fun x hx => r_One hx
  have o17 := o1 17 (by omega)
  have o5 := o1 5 (by omega)
  have o3 := o1 3 (by omega)
  have o7 := o1 7 (by omega)
  have o9 := o1 9 (by omega)
  have o4 := o1 4 (by omega)
  have o2 := o1 2 (by omega)
  have o0 := o1 0 (by omega)
  have h64 : 2 ^ 64 < M := by unfold M; exact Nat.pow_lt_pow_right (by omega) (by omega)
  have d1 : Run T f_divide_Div [natv 17, natv 5] [] = some (.tup [natv 3, natv 2, .i 0], []) := r_Div (a := 17) (m := 5) (by omega) (by omega) (by omega)
  have d2 := r_Div_no (a := 17) (by omega)
  have d3 : Run T f_divide_PowMod [natv 3, natv 4, natv 7] [] = some (.tup [natv 4, .i 0], []) := r_PowMod (a := 3) (e := 4) (m := 7) (by omega) (by omega) (by omega) (by omega)
  have d4 := r_inv37
  have d5 := r_inv39
  have c6 := r_Num 0
  have c7 := r_Num 400
  have c8 := r_Num 401
  have k3 := eqis 0
  have k4 := eqis 400
  have k5 := eqis 401
  clear o1
  simp only [Qa,Qb,Qc,Qd,Qe,Qf,Qg,Qh,Qi,Qj,Qk,Ql,Qm,Qn,Qo,Qp,Qq,Qr,Qs,Qt,Qu,Qv,Qw,Qx,Qy,Qz,QA,QB,QC,QD,QE,QF,QG,QH,QI,QJ,QK,QL,QM,QN,QO,QP,QQ,QR,QS,QT,QU,QV,QW,QX,QY,QZ,Q0,Q1,Q2,Q3,Q4,Q5,Q6,Q7,Q8,Q9,Xa,Xb,Xc,Xd,Xe,Xf,Xg,Xh,Xi,Xj,Xk,Xl,Xm,Xn,Xo,Xp,Xq,Xr,Xs,Xt,Xu,Xv,Xw,Xx,Xy,Xz,XA,XB,XC,XD,XE,XF,XG,XH,XI,XJ,XK,XL,XM,XN,XO,XP,XQ,XR,XS,XT,XU,XV,XW,XX,XY,XZ,X0,X1,X2,X3,X4,X5,X6,X7,X8,X9,Ya,Yb,Yc,Yd,Ye,Yf,Yg,Yh,Yi,Yj,Yk,Yl,Ym,Yn,Yo,Yp,Yq,Yr,Ys,Yt,Yu,Yv,Yw,Yx,Yy,Yz,YA,YB,YC,YD,YE,YF,YG,YH,YI,YJ,YK,YL,YM,YN,YO,YP,YQ,YR,YS,YT,YU,YV,YW,YX,YY,YZ,Y0,Y1,Y2,Y3,Y4,Y5,Y6,Y7,Y8,Y9,Za,Zb,Zc,Zd,Ze,Zf,Zg,Zh,Zi,Zj,Zk,Zl,Zm,Zn,Zo,Zp,Zq,Zr,Zs,Zt,Zu,Zv,Zw,Zx,Zy,Zz,ZA,ZB,ZC,ZD,ZE,ZF,ZG,ZH,ZI,ZJ,ZK,ZL,ZM,ZN,ZO,ZP,ZQ,ZR,ZS,ZT,ZU,ZV,ZW,ZX,ZY,ZZ,Z0,Z1,Z2,Z3,Z4,Z5,Z6,Z7,Z8,Z9,Ja,Jb,Jc,Jd,Je,Jf,Jg,Jh,Ji,Jj,Jk,Jl,Jm,Jn,Jo,Jp,Jq,Jr,Js,Jt,Ju,Jv,Jw,Jx,Jy,Jz,JA,JB,JC,JD,JE,JF,JG,JH,JI,JJ,JK,JL,JM,JN,JO,JP,JQ,JR,JS,JT,JU,JV,JW,JX,JY,JZ,J0,J1,J2,J3,J4,J5,J6,J7,J8,J9,Ka,Kb,Kc,Kd,Ke,Kf,Kg,Kh,Ki,Kj,Kk,Kl,Km,Kn,Ko,Kp,Kq,Kr,Ks,Kt,Ku,Kv,Kw,Kx,Ky,Kz,KA,KB,KC,KD,KE,KF,KG,KH,KI,KJ,KK,KL,KM,KN,KO,KP,KQ,KR,KS,KT,KU,KV,KW,KX,KY,KZ,K0,K1,K2,K3,K4,K5,K6,K7,K8,K9,Ga,Gb,Gc,Gd,Ge,Gf,Gg,Gh,Gi,Gj,Gk,Gl,Gm,Gn,Gp,Gq,Gr,Gs,Gt,Gu,Gv,Gw,Gx,Gy,Gz,GA,GB,GC,GD,GE,GF,GG,GH,GI,GJ,GK,GL,GM,GN,GO,GP,GQ,GR,GS,GT,Nat.le_refl,Nat.reduceLeDiff,List.drop_zero,us_take,us_drop,is_take,is_drop,List.take_zero,gn,if_true,if_false,Nat.reduceEqDiff,Int.reduceEq,reduceCtorEq,Nat.succ_ne_self,Nat.reduceAdd,Nat.zero_add,Nat.add_zero,Nat.reduceMul,Nat.mul_one,Nat.one_mul,Nat.zero_mul,Nat.sub_zero,decide_true,decide_false,Bool.and_self,Bool.and_true,Bool.true_and,Bool.false_and,Bool.and_false,Bool.not_true,Bool.not_false,List.length_cons,List.length_nil,us_len,is_len,tb_len,dl_len,us_set,is_set,tb_set,Nat.not_lt_zero,List.nil_append,us_rep,is_rep, o17, o5, o3, o7, o9, o4, o2, o0, d1, d2, d3, d4, d5, c6, c7, c8, k3, k4, k5, eq9s, natv_noHp]
end Mir
