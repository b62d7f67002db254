/- Chapter 22, the document's own signatures as bytes, and the law Ders. Conditions: none. -/
import Derived.Test.YtphinknjjdfgeaaDer1
import Derived.Test.YtphinknjjdfgeaaAllR
set_option linter.unusedVariables false
set_option linter.unusedSimpArgs false
set_option exponentiation.threshold 5000
set_option maxRecDepth 20000
namespace Mir

theorem bs_more {n x : Nat} (h : x < 2 ^ (8 * n)) : bs (n + 1) x = 0 :: bs n x := by
  unfold bs
  rw [tb_succ]
  congr 1
  · rw [show n + 1 - 1 - 0 = n by omega, Nat.div_eq_of_lt h]
  · exact tb_congr fun j hj => by rw [show n + 1 - 1 - (j + 1) = n - 1 - j by omega]
theorem pNum_bs {x : Nat} (hx : x < M) : pNum x = bs (bl x / 8 + 1) x := by
  have h1 := pNum_bl hx
  have h3 := bl_le_iff.1 (nby_bl x)
  unfold pNum at *
  split
  · rename_i h
    rw [if_pos h, List.length_cons, bs_len] at h1
    rw [← h1, bs_more h3]
  · rename_i h
    rw [if_neg h, bs_len] at h1
    rw [← h1]

theorem r_refNumber {x : Nat} (hx : x < M) : Run T f_curvetref13_number [num x] [] = some (.s (pField 2 (pNum x)), []) := by
  rw [Run_at T _ (show T f_curvetref13_number = some m_curvetref13_number from rfl)]
  simp only [c_curvetref13_number]
  have fx := Fit.of_M hx
  have c1 := r_Bits fx
  have hb : bl x ≤ 576 := bl_le_iff.2 hx
  have hlen := pNum_bl hx
  obtain ⟨b, hb'⟩ : ∃ b, b = bl x := ⟨_, rfl⟩
  obtain ⟨b8, hb8⟩ : ∃ b8, b8 = b / 8 := ⟨_, rfl⟩
  obtain ⟨k, hk⟩ : ∃ k, k = b / 8 + 1 := ⟨_, rfl⟩
  have hpn := pNum_bs hx
  have hbs := bl_le_iff.1 (Nat.le_refl (bl x))
  rw [← hb'] at hbs
  rw [← hb', ← hk] at hpn hlen
  have k1 : F (w64 (Int.tdiv (b : Int) 8)) (b8 : Int) := ⟨by rw [Int.tdiv_eq_ediv_of_nonneg (by omega)]; unfold w64; omega⟩
  have k2 : F (w64 ((b8 : Int) + 1)) (k : Int) := ⟨by unfold w64; omega⟩
  have e : pField 2 (pNum x) = 2 :: k :: bs k x := by
    unfold pField
    rw [if_pos (by omega), hlen, hpn, Nat.mod_eq_of_lt (by omega)]
  rw [e]
  have hk73 : k ≤ 73 := by omega
  by_cases h : 72 < k
  · have k3 : decide ((72 : Int) < (k : Int)) = true := decide_eq_true (by omega)
    have e72 : ((72 : Nat) : Int) = 72 := rfl
    have c2 := r_refBytes fx (n := 72) (by omega) (by omega)
    rw [e72] at c2
    have hk' : k = 73 := by omega
    have e2 : bs k x = 0 :: bs 72 x := by rw [hk']; exact bs_more (n := 72) hx
    have k4 : b2sV true [] (.vs 2 [.u 8 73, .u 8 0]) = some (.s [73, 0]) := b2s_vs (l := [73, 0]) rfl
    have k5 : binV .add (.s [2]) (.s [73, 0]) = some (.s [2, 73, 0]) := s_add _ _ (by simp)
    have k6 : binV .add (.s [2, 73, 0]) (.s (bs 72 x)) = some (.s (2 :: 73 :: 0 :: bs 72 x)) := s_add _ _ (by simp [bs_len])
    have k7 : okc 1 [V.u 8 73] 0 2 = true := by simp [okc, cellV]
    have k8 : okc 1 [V.u 8 0] 1 2 = true := by simp [okc, cellV]
    rw [e2, hk']
    rw [hk'] at k2 k3
    rw [← hb'] at c1
    simp only [Qa,Qb,Qc,Qd,Qe,Qf,Qg,Qh,Qi,Qj,Qk,Ql,Qm,Qn,Qo,Qp,Qq,Qr,Qs,Qt,Qu,Qv,Qw,Qx,Qy,Qz,QA,QB,QC,QD,QE,QF,QG,QH,QI,QJ,QK,QL,QM,QN,QO,QP,QQ,QR,QS,QT,QU,QV,QW,QX,QY,QZ,Q0,Q1,Q2,Q3,Q4,Q5,Q6,Q7,Q8,Q9,Xa,Xb,Xc,Xd,Xe,Xf,Xg,Xh,Xi,Xj,Xk,Xl,Xm,Xn,Xo,Xp,Xq,Xr,Xs,Xt,Xu,Xv,Xw,Xx,Xy,Xz,XA,XB,XC,XD,XE,XF,XG,XH,XI,XJ,XK,XL,XM,XN,XO,XP,XQ,XR,XS,XT,XU,XV,XW,XX,XY,XZ,X0,X1,X2,X3,X4,X5,X6,X7,X8,X9,Ya,Yb,Yc,Yd,Ye,Yf,Yg,Yh,Yi,Yj,Yk,Yl,Ym,Yn,Yo,Yp,Yq,Yr,Ys,Yt,Yu,Yv,Yw,Yx,Yy,Yz,YA,YB,YC,YD,YE,YF,YG,YH,YI,YJ,YK,YL,YM,YN,YO,YP,YQ,YR,YS,YT,YU,YV,YW,YX,YY,YZ,Y0,Y1,Y2,Y3,Y4,Y5,Y6,Y7,Y8,Y9,Za,Zb,Zc,Zd,Ze,Zf,Zg,Zh,Zi,Zj,Zk,Zl,Zm,Zn,Zo,Zp,Zq,Zr,Zs,Zt,Zu,Zv,Zw,Zx,Zy,Zz,ZA,ZB,ZC,ZD,ZE,ZF,ZG,ZH,ZI,ZJ,ZK,ZL,ZM,ZN,ZO,ZP,ZQ,ZR,ZS,ZT,ZU,ZV,ZW,ZX,ZY,ZZ,Z0,Z1,Z2,Z3,Z4,Z5,Z6,Z7,Z8,Z9,Ja,Jb,Jc,Jd,Je,Jf,Jg,Jh,Ji,Jj,Jk,Jl,Jm,Jn,Jo,Jp,Jq,Jr,Js,Jt,Ju,Jv,Jw,Jx,Jy,Jz,JA,JB,JC,JD,JE,JF,JG,JH,JI,JJ,JK,JL,JM,JN,JO,JP,JQ,JR,JS,JT,JU,JV,JW,JX,JY,JZ,J0,J1,J2,J3,J4,J5,J6,J7,J8,J9,Ka,Kb,Kc,Kd,Ke,Kf,Kg,Kh,Ki,Kj,Kk,Kl,Km,Kn,Ko,Kp,Kq,Kr,Ks,Kt,Ku,Kv,Kw,Kx,Ky,Kz,KA,KB,KC,KD,KE,KF,KG,KH,KI,KJ,KK,KL,KM,KN,KO,KP,KQ,KR,KS,KT,KU,KV,KW,KX,KY,KZ,K0,K1,K2,K3,K4,K5,K6,K7,K8,K9,Ga,Gb,Gc,Gd,Ge,Gf,Gg,Gh,Gi,Gj,Gk,Gl,Gm,Gn,Gp,Gq,Gr,Gs,Gt,Gu,Gv,Gw,Gx,Gy,Gz,GA,GB,GC,GD,GE,GF,GG,GH,GI,GJ,GK,GL,GM,GN,GO,GP,GQ,GR,GS,GT,Nat.le_refl,Nat.reduceLeDiff,List.drop_zero,us_take,us_drop,is_take,is_drop,List.take_zero,gn,if_true,if_false,Nat.reduceEqDiff,Int.reduceEq,reduceCtorEq,Nat.succ_ne_self,Nat.reduceAdd,Nat.zero_add,Nat.add_zero,Nat.reduceMul,Nat.mul_one,Nat.one_mul,Nat.zero_mul,Nat.sub_zero,decide_true,decide_false,Bool.and_self,Bool.and_true,Bool.true_and,Bool.false_and,Bool.and_false,Bool.not_true,Bool.not_false,List.length_cons,List.length_nil,us_len,is_len,tb_len,dl_len,us_set,is_set,tb_set,Nat.not_lt_zero,List.nil_append,us_rep,is_rep, List.set_cons_zero, List.set_cons_succ, c1, c2, k1.eq, k2.eq, k3, k4, k5, k6, k7, k8, num_noHp]
  · have k3 : decide ((72 : Int) < (k : Int)) = false := decide_eq_false (by omega)
    have c2 := r_refBytes fx (n := k) (by omega) (by omega)
    have k4 : b2sV true [] (.vs 1 [.u 8 k]) = some (.s [k]) := b2s_vs (l := [k]) rfl
    have k5 : binV .add (.s [2]) (.s [k]) = some (.s [2, k]) := s_add _ _ (by simp)
    have k6 : binV .add (.s [2, k]) (.s (bs k x)) = some (.s (2 :: k :: bs k x)) := s_add _ _ (by simp [bs_len]; omega)
    have k7 : okc 1 [V.u 8 k] 0 1 = true := by simp [okc, cellV]
    have k8 : F ((((k : Nat) : Int) % 2 ^ 8).toNat) k := ⟨by omega⟩
    rw [← hb'] at c1
    simp only [Qa,Qb,Qc,Qd,Qe,Qf,Qg,Qh,Qi,Qj,Qk,Ql,Qm,Qn,Qo,Qp,Qq,Qr,Qs,Qt,Qu,Qv,Qw,Qx,Qy,Qz,QA,QB,QC,QD,QE,QF,QG,QH,QI,QJ,QK,QL,QM,QN,QO,QP,QQ,QR,QS,QT,QU,QV,QW,QX,QY,QZ,Q0,Q1,Q2,Q3,Q4,Q5,Q6,Q7,Q8,Q9,Xa,Xb,Xc,Xd,Xe,Xf,Xg,Xh,Xi,Xj,Xk,Xl,Xm,Xn,Xo,Xp,Xq,Xr,Xs,Xt,Xu,Xv,Xw,Xx,Xy,Xz,XA,XB,XC,XD,XE,XF,XG,XH,XI,XJ,XK,XL,XM,XN,XO,XP,XQ,XR,XS,XT,XU,XV,XW,XX,XY,XZ,X0,X1,X2,X3,X4,X5,X6,X7,X8,X9,Ya,Yb,Yc,Yd,Ye,Yf,Yg,Yh,Yi,Yj,Yk,Yl,Ym,Yn,Yo,Yp,Yq,Yr,Ys,Yt,Yu,Yv,Yw,Yx,Yy,Yz,YA,YB,YC,YD,YE,YF,YG,YH,YI,YJ,YK,YL,YM,YN,YO,YP,YQ,YR,YS,YT,YU,YV,YW,YX,YY,YZ,Y0,Y1,Y2,Y3,Y4,Y5,Y6,Y7,Y8,Y9,Za,Zb,Zc,Zd,Ze,Zf,Zg,Zh,Zi,Zj,Zk,Zl,Zm,Zn,Zo,Zp,Zq,Zr,Zs,Zt,Zu,Zv,Zw,Zx,Zy,Zz,ZA,ZB,ZC,ZD,ZE,ZF,ZG,ZH,ZI,ZJ,ZK,ZL,ZM,ZN,ZO,ZP,ZQ,ZR,ZS,ZT,ZU,ZV,ZW,ZX,ZY,ZZ,Z0,Z1,Z2,Z3,Z4,Z5,Z6,Z7,Z8,Z9,Ja,Jb,Jc,Jd,Je,Jf,Jg,Jh,Ji,Jj,Jk,Jl,Jm,Jn,Jo,Jp,Jq,Jr,Js,Jt,Ju,Jv,Jw,Jx,Jy,Jz,JA,JB,JC,JD,JE,JF,JG,JH,JI,JJ,JK,JL,JM,JN,JO,JP,JQ,JR,JS,JT,JU,JV,JW,JX,JY,JZ,J0,J1,J2,J3,J4,J5,J6,J7,J8,J9,Ka,Kb,Kc,Kd,Ke,Kf,Kg,Kh,Ki,Kj,Kk,Kl,Km,Kn,Ko,Kp,Kq,Kr,Ks,Kt,Ku,Kv,Kw,Kx,Ky,Kz,KA,KB,KC,KD,KE,KF,KG,KH,KI,KJ,KK,KL,KM,KN,KO,KP,KQ,KR,KS,KT,KU,KV,KW,KX,KY,KZ,K0,K1,K2,K3,K4,K5,K6,K7,K8,K9,Ga,Gb,Gc,Gd,Ge,Gf,Gg,Gh,Gi,Gj,Gk,Gl,Gm,Gn,Gp,Gq,Gr,Gs,Gt,Gu,Gv,Gw,Gx,Gy,Gz,GA,GB,GC,GD,GE,GF,GG,GH,GI,GJ,GK,GL,GM,GN,GO,GP,GQ,GR,GS,GT,Nat.le_refl,Nat.reduceLeDiff,List.drop_zero,us_take,us_drop,is_take,is_drop,List.take_zero,gn,if_true,if_false,Nat.reduceEqDiff,Int.reduceEq,reduceCtorEq,Nat.succ_ne_self,Nat.reduceAdd,Nat.zero_add,Nat.add_zero,Nat.reduceMul,Nat.mul_one,Nat.one_mul,Nat.zero_mul,Nat.sub_zero,decide_true,decide_false,Bool.and_self,Bool.and_true,Bool.true_and,Bool.false_and,Bool.and_false,Bool.not_true,Bool.not_false,List.length_cons,List.length_nil,us_len,is_len,tb_len,dl_len,us_set,is_set,tb_set,Nat.not_lt_zero,List.nil_append,us_rep,is_rep, List.set_cons_zero, List.set_cons_succ, c1, c2, k1.eq, k2.eq, k3, k4, k5, k6, k7, k8.eq, num_noHp]

theorem r_refDer {r t : Nat} (hr : r < M) (ht : t < M) : Run T f_curvetref13_Der [num r, num t] [] = some (.s (pPut r t), []) := by
  rw [Run_at T _ (show T f_curvetref13_Der = some m_curvetref13_Der from rfl)]
  simp only [c_curvetref13_Der]
  have c1 := r_refNumber hr
  have c2 := r_refNumber ht
  obtain ⟨h1, h2, h3, h4, h5⟩ := body_len hr ht
  have l3 := pField_len 2 (pNum r)
  have l4 := pField_len 2 (pNum t)
  rw [if_pos (by omega)] at l3 l4
  have k1 : binV .add (.s (pField 2 (pNum r))) (.s (pField 2 (pNum t))) = some (.s (pField 2 (pNum r) ++ pField 2 (pNum t))) := s_add _ _ (by omega)
  have e : pPut r t = pField 48 (pField 2 (pNum r) ++ pField 2 (pNum t)) := rfl
  obtain ⟨B, hB⟩ : ∃ B, pField 2 (pNum r) ++ pField 2 (pNum t) = B := ⟨_, rfl⟩
  rw [hB] at h1 k1 e
  obtain ⟨n, hn⟩ : ∃ n, n = B.length := ⟨_, rfl⟩
  have hm : B.length % 256 = n := by omega
  have k2 : decide (B.length < 9223372036854775808) = true := decide_eq_true (by omega)
  have k3 : F ((((B.length : Nat) : Int) % 2 ^ 8).toNat) n := ⟨by omega⟩
  have k4 : b2sV true [] (.vs 1 [.u 8 n]) = some (.s [n]) := b2s_vs (l := [n]) rfl
  have k5 : okc 1 [V.u 8 n] 0 1 = true := by simp [okc, cellV]
  by_cases h : B.length < 128
  · have e2 : pPut r t = 48 :: n :: B := by rw [e, pField, if_pos h, hm]
    have k6 : decide ((B.length : Int) < 128) = true := decide_eq_true (by omega)
    have k7 : binV .add (.s [48]) (.s [n]) = some (.s [48, n]) := s_add _ _ (by simp)
    have k8 : binV .add (.s [48, n]) (.s B) = some (.s (48 :: n :: B)) := s_add _ _ (by simp; omega)
    rw [e2]
    simp only [Qa,Qb,Qc,Qd,Qe,Qf,Qg,Qh,Qi,Qj,Qk,Ql,Qm,Qn,Qo,Qp,Qq,Qr,Qs,Qt,Qu,Qv,Qw,Qx,Qy,Qz,QA,QB,QC,QD,QE,QF,QG,QH,QI,QJ,QK,QL,QM,QN,QO,QP,QQ,QR,QS,QT,QU,QV,QW,QX,QY,QZ,Q0,Q1,Q2,Q3,Q4,Q5,Q6,Q7,Q8,Q9,Xa,Xb,Xc,Xd,Xe,Xf,Xg,Xh,Xi,Xj,Xk,Xl,Xm,Xn,Xo,Xp,Xq,Xr,Xs,Xt,Xu,Xv,Xw,Xx,Xy,Xz,XA,XB,XC,XD,XE,XF,XG,XH,XI,XJ,XK,XL,XM,XN,XO,XP,XQ,XR,XS,XT,XU,XV,XW,XX,XY,XZ,X0,X1,X2,X3,X4,X5,X6,X7,X8,X9,Ya,Yb,Yc,Yd,Ye,Yf,Yg,Yh,Yi,Yj,Yk,Yl,Ym,Yn,Yo,Yp,Yq,Yr,Ys,Yt,Yu,Yv,Yw,Yx,Yy,Yz,YA,YB,YC,YD,YE,YF,YG,YH,YI,YJ,YK,YL,YM,YN,YO,YP,YQ,YR,YS,YT,YU,YV,YW,YX,YY,YZ,Y0,Y1,Y2,Y3,Y4,Y5,Y6,Y7,Y8,Y9,Za,Zb,Zc,Zd,Ze,Zf,Zg,Zh,Zi,Zj,Zk,Zl,Zm,Zn,Zo,Zp,Zq,Zr,Zs,Zt,Zu,Zv,Zw,Zx,Zy,Zz,ZA,ZB,ZC,ZD,ZE,ZF,ZG,ZH,ZI,ZJ,ZK,ZL,ZM,ZN,ZO,ZP,ZQ,ZR,ZS,ZT,ZU,ZV,ZW,ZX,ZY,ZZ,Z0,Z1,Z2,Z3,Z4,Z5,Z6,Z7,Z8,Z9,Ja,Jb,Jc,Jd,Je,Jf,Jg,Jh,Ji,Jj,Jk,Jl,Jm,Jn,Jo,Jp,Jq,Jr,Js,Jt,Ju,Jv,Jw,Jx,Jy,Jz,JA,JB,JC,JD,JE,JF,JG,JH,JI,JJ,JK,JL,JM,JN,JO,JP,JQ,JR,JS,JT,JU,JV,JW,JX,JY,JZ,J0,J1,J2,J3,J4,J5,J6,J7,J8,J9,Ka,Kb,Kc,Kd,Ke,Kf,Kg,Kh,Ki,Kj,Kk,Kl,Km,Kn,Ko,Kp,Kq,Kr,Ks,Kt,Ku,Kv,Kw,Kx,Ky,Kz,KA,KB,KC,KD,KE,KF,KG,KH,KI,KJ,KK,KL,KM,KN,KO,KP,KQ,KR,KS,KT,KU,KV,KW,KX,KY,KZ,K0,K1,K2,K3,K4,K5,K6,K7,K8,K9,Ga,Gb,Gc,Gd,Ge,Gf,Gg,Gh,Gi,Gj,Gk,Gl,Gm,Gn,Gp,Gq,Gr,Gs,Gt,Gu,Gv,Gw,Gx,Gy,Gz,GA,GB,GC,GD,GE,GF,GG,GH,GI,GJ,GK,GL,GM,GN,GO,GP,GQ,GR,GS,GT,Nat.le_refl,Nat.reduceLeDiff,List.drop_zero,us_take,us_drop,is_take,is_drop,List.take_zero,gn,if_true,if_false,Nat.reduceEqDiff,Int.reduceEq,reduceCtorEq,Nat.succ_ne_self,Nat.reduceAdd,Nat.zero_add,Nat.add_zero,Nat.reduceMul,Nat.mul_one,Nat.one_mul,Nat.zero_mul,Nat.sub_zero,decide_true,decide_false,Bool.and_self,Bool.and_true,Bool.true_and,Bool.false_and,Bool.and_false,Bool.not_true,Bool.not_false,List.length_cons,List.length_nil,us_len,is_len,tb_len,dl_len,us_set,is_set,tb_set,Nat.not_lt_zero,List.nil_append,us_rep,is_rep, List.set_cons_zero, c1, c2, k1, k2, k3.eq, k4, k5, k6, k7, k8, num_noHp]
  · have e2 : pPut r t = 48 :: 129 :: n :: B := by rw [e, pField, if_neg h, hm]
    have k6 : decide ((B.length : Int) < 128) = false := decide_eq_false (by omega)
    have k7 : binV .add (.s [48, 129]) (.s [n]) = some (.s [48, 129, n]) := s_add _ _ (by simp)
    have k8 : binV .add (.s [48, 129, n]) (.s B) = some (.s (48 :: 129 :: n :: B)) := s_add _ _ (by simp; omega)
    rw [e2]
    simp only [Qa,Qb,Qc,Qd,Qe,Qf,Qg,Qh,Qi,Qj,Qk,Ql,Qm,Qn,Qo,Qp,Qq,Qr,Qs,Qt,Qu,Qv,Qw,Qx,Qy,Qz,QA,QB,QC,QD,QE,QF,QG,QH,QI,QJ,QK,QL,QM,QN,QO,QP,QQ,QR,QS,QT,QU,QV,QW,QX,QY,QZ,Q0,Q1,Q2,Q3,Q4,Q5,Q6,Q7,Q8,Q9,Xa,Xb,Xc,Xd,Xe,Xf,Xg,Xh,Xi,Xj,Xk,Xl,Xm,Xn,Xo,Xp,Xq,Xr,Xs,Xt,Xu,Xv,Xw,Xx,Xy,Xz,XA,XB,XC,XD,XE,XF,XG,XH,XI,XJ,XK,XL,XM,XN,XO,XP,XQ,XR,XS,XT,XU,XV,XW,XX,XY,XZ,X0,X1,X2,X3,X4,X5,X6,X7,X8,X9,Ya,Yb,Yc,Yd,Ye,Yf,Yg,Yh,Yi,Yj,Yk,Yl,Ym,Yn,Yo,Yp,Yq,Yr,Ys,Yt,Yu,Yv,Yw,Yx,Yy,Yz,YA,YB,YC,YD,YE,YF,YG,YH,YI,YJ,YK,YL,YM,YN,YO,YP,YQ,YR,YS,YT,YU,YV,YW,YX,YY,YZ,Y0,Y1,Y2,Y3,Y4,Y5,Y6,Y7,Y8,Y9,Za,Zb,Zc,Zd,Ze,Zf,Zg,Zh,Zi,Zj,Zk,Zl,Zm,Zn,Zo,Zp,Zq,Zr,Zs,Zt,Zu,Zv,Zw,Zx,Zy,Zz,ZA,ZB,ZC,ZD,ZE,ZF,ZG,ZH,ZI,ZJ,ZK,ZL,ZM,ZN,ZO,ZP,ZQ,ZR,ZS,ZT,ZU,ZV,ZW,ZX,ZY,ZZ,Z0,Z1,Z2,Z3,Z4,Z5,Z6,Z7,Z8,Z9,Ja,Jb,Jc,Jd,Je,Jf,Jg,Jh,Ji,Jj,Jk,Jl,Jm,Jn,Jo,Jp,Jq,Jr,Js,Jt,Ju,Jv,Jw,Jx,Jy,Jz,JA,JB,JC,JD,JE,JF,JG,JH,JI,JJ,JK,JL,JM,JN,JO,JP,JQ,JR,JS,JT,JU,JV,JW,JX,JY,JZ,J0,J1,J2,J3,J4,J5,J6,J7,J8,J9,Ka,Kb,Kc,Kd,Ke,Kf,Kg,Kh,Ki,Kj,Kk,Kl,Km,Kn,Ko,Kp,Kq,Kr,Ks,Kt,Ku,Kv,Kw,Kx,Ky,Kz,KA,KB,KC,KD,KE,KF,KG,KH,KI,KJ,KK,KL,KM,KN,KO,KP,KQ,KR,KS,KT,KU,KV,KW,KX,KY,KZ,K0,K1,K2,K3,K4,K5,K6,K7,K8,K9,Ga,Gb,Gc,Gd,Ge,Gf,Gg,Gh,Gi,Gj,Gk,Gl,Gm,Gn,Gp,Gq,Gr,Gs,Gt,Gu,Gv,Gw,Gx,Gy,Gz,GA,GB,GC,GD,GE,GF,GG,GH,GI,GJ,GK,GL,GM,GN,GO,GP,GQ,GR,GS,GT,Nat.le_refl,Nat.reduceLeDiff,List.drop_zero,us_take,us_drop,is_take,is_drop,List.take_zero,gn,if_true,if_false,Nat.reduceEqDiff,Int.reduceEq,reduceCtorEq,Nat.succ_ne_self,Nat.reduceAdd,Nat.zero_add,Nat.add_zero,Nat.reduceMul,Nat.mul_one,Nat.one_mul,Nat.zero_mul,Nat.sub_zero,decide_true,decide_false,Bool.and_self,Bool.and_true,Bool.true_and,Bool.false_and,Bool.and_false,Bool.not_true,Bool.not_false,List.length_cons,List.length_nil,us_len,is_len,tb_len,dl_len,us_set,is_set,tb_set,Nat.not_lt_zero,List.nil_append,us_rep,is_rep, List.set_cons_zero, c1, c2, k1, k2, k3.eq, k4, k5, k6, k7, k8, num_noHp]

/-- A number's bytes from a place. -/
def pTake (s : List Nat) (a : Nat) : Option (Nat × Nat) :=
  if s.length < a + 2 then none else if s.getD a 0 ≠ 2 then none
  else if s.getD (a + 1) 0 < 1 ∨ 73 < s.getD (a + 1) 0 ∨ s.length < a + 2 + s.getD (a + 1) 0 then none
  else some (ov ((s.take (a + 2 + s.getD (a + 1) 0)).drop (a + 2)), a + 2 + s.getD (a + 1) 0)

theorem get_getD {s : List Nat} {i : Nat} (h : i < s.length) : s[i]? = some (s.getD i 0) := by simp [h]

theorem r_readL {l : List Nat} (hl : By l) (h : l.length < 1000000) : Run T f_curvetref1_Read [.s l] [] = some (num (ov l), []) := by
  have hst : l = tb l.length (fun j => l.getD j 0) := tb_of rfl
  have := r_refRead (n := l.length) (f := fun j => l.getD j 0) h (fun j hj => by
    have e : l.getD j 0 = l[j] := by simp [hj]
    rw [e]; exact hl _ (List.getElem_mem hj))
  rw [← hst] at this
  exact this

theorem r_take {s : List Nat} {a : Nat} (hs : s.length < 9223372036854775808) (hb : By s) (ha : a < 1000000) :
    (pTake s a = none ∧ Run T f_curvetref13_take [.s s, .i (a : Int)] [] = some (.tup [num 0, .i 0, .b false], [])) ∨
    ∃ v n, pTake s a = some (v, n) ∧ n < a + 76 ∧ v < 2 ^ (8 * 73) ∧ Run T f_curvetref13_take [.s s, .i (a : Int)] [] = some (.tup [num v, .i (n : Int), .b true], []) := by
  rw [Run_at T _ (show T f_curvetref13_take = some m_curvetref13_take from rfl)]
  simp only [c_curvetref13_take, num_zero]
  have hv : ∀ (H : Heap), fzV false H 0 5 (.vs 0 []) = some (.vs 0 []) := fun H => Gy false H 0 4 0 32 []
  have k0 : decide (s.length < 9223372036854775808) = true := decide_eq_true hs
  obtain ⟨a2, ha2⟩ : ∃ x, x = a + 2 := ⟨_, rfl⟩
  obtain ⟨a1, ha1⟩ : ∃ x, x = a + 1 := ⟨_, rfl⟩
  have k1 : F (w64 ((a : Int) + 2)) (a2 : Int) := ⟨by unfold w64; omega⟩
  have k2 : F (w64 ((a : Int) + 1)) (a1 : Int) := ⟨by unfold w64; omega⟩
  by_cases h1 : s.length < a + 2
  · left
    have k3 : decide ((s.length : Int) < (a2 : Int)) = true := decide_eq_true (by omega)
    refine ⟨by rw [pTake, if_pos h1], ?_⟩
    simp only [Qa,Qb,Qc,Qd,Qe,Qf,Qg,Qh,Qi,Qj,Qk,Ql,Qm,Qn,Qo,Qp,Qq,Qr,Qs,Qt,Qu,Qv,Qw,Qx,Qy,Qz,QA,QB,QC,QD,QE,QF,QG,QH,QI,QJ,QK,QL,QM,QN,QO,QP,QQ,QR,QS,QT,QU,QV,QW,QX,QY,QZ,Q0,Q1,Q2,Q3,Q4,Q5,Q6,Q7,Q8,Q9,Xa,Xb,Xc,Xd,Xe,Xf,Xg,Xh,Xi,Xj,Xk,Xl,Xm,Xn,Xo,Xp,Xq,Xr,Xs,Xt,Xu,Xv,Xw,Xx,Xy,Xz,XA,XB,XC,XD,XE,XF,XG,XH,XI,XJ,XK,XL,XM,XN,XO,XP,XQ,XR,XS,XT,XU,XV,XW,XX,XY,XZ,X0,X1,X2,X3,X4,X5,X6,X7,X8,X9,Ya,Yb,Yc,Yd,Ye,Yf,Yg,Yh,Yi,Yj,Yk,Yl,Ym,Yn,Yo,Yp,Yq,Yr,Ys,Yt,Yu,Yv,Yw,Yx,Yy,Yz,YA,YB,YC,YD,YE,YF,YG,YH,YI,YJ,YK,YL,YM,YN,YO,YP,YQ,YR,YS,YT,YU,YV,YW,YX,YY,YZ,Y0,Y1,Y2,Y3,Y4,Y5,Y6,Y7,Y8,Y9,Za,Zb,Zc,Zd,Ze,Zf,Zg,Zh,Zi,Zj,Zk,Zl,Zm,Zn,Zo,Zp,Zq,Zr,Zs,Zt,Zu,Zv,Zw,Zx,Zy,Zz,ZA,ZB,ZC,ZD,ZE,ZF,ZG,ZH,ZI,ZJ,ZK,ZL,ZM,ZN,ZO,ZP,ZQ,ZR,ZS,ZT,ZU,ZV,ZW,ZX,ZY,ZZ,Z0,Z1,Z2,Z3,Z4,Z5,Z6,Z7,Z8,Z9,Ja,Jb,Jc,Jd,Je,Jf,Jg,Jh,Ji,Jj,Jk,Jl,Jm,Jn,Jo,Jp,Jq,Jr,Js,Jt,Ju,Jv,Jw,Jx,Jy,Jz,JA,JB,JC,JD,JE,JF,JG,JH,JI,JJ,JK,JL,JM,JN,JO,JP,JQ,JR,JS,JT,JU,JV,JW,JX,JY,JZ,J0,J1,J2,J3,J4,J5,J6,J7,J8,J9,Ka,Kb,Kc,Kd,Ke,Kf,Kg,Kh,Ki,Kj,Kk,Kl,Km,Kn,Ko,Kp,Kq,Kr,Ks,Kt,Ku,Kv,Kw,Kx,Ky,Kz,KA,KB,KC,KD,KE,KF,KG,KH,KI,KJ,KK,KL,KM,KN,KO,KP,KQ,KR,KS,KT,KU,KV,KW,KX,KY,KZ,K0,K1,K2,K3,K4,K5,K6,K7,K8,K9,Ga,Gb,Gc,Gd,Ge,Gf,Gg,Gh,Gi,Gj,Gk,Gl,Gm,Gn,Gp,Gq,Gr,Gs,Gt,Gu,Gv,Gw,Gx,Gy,Gz,GA,GB,GC,GD,GE,GF,GG,GH,GI,GJ,GK,GL,GM,GN,GO,GP,GQ,GR,GS,GT,Nat.le_refl,Nat.reduceLeDiff,List.drop_zero,us_take,us_drop,is_take,is_drop,List.take_zero,gn,if_true,if_false,Nat.reduceEqDiff,Int.reduceEq,reduceCtorEq,Nat.succ_ne_self,Nat.reduceAdd,Nat.zero_add,Nat.add_zero,Nat.reduceMul,Nat.mul_one,Nat.one_mul,Nat.zero_mul,Nat.sub_zero,decide_true,decide_false,Bool.and_self,Bool.and_true,Bool.true_and,Bool.false_and,Bool.and_false,Bool.not_true,Bool.not_false,List.length_cons,List.length_nil,us_len,is_len,tb_len,dl_len,us_set,is_set,tb_set,Nat.not_lt_zero,List.nil_append,us_rep,is_rep, k0, k1.eq, k3, hv]
  · have k3 : decide ((s.length : Int) < (a2 : Int)) = false := decide_eq_false (by omega)
    have k4 := ixOf_nat (show a < s.length by omega)
    have k5 := get_getD (show a < s.length by omega)
    obtain ⟨x, hx⟩ : ∃ x, s.getD a 0 = x := ⟨_, rfl⟩
    by_cases h2 : s.getD a 0 = 2
    · have k6 : decide (x = 2) = true := decide_eq_true (by omega)
      have k7 := ixOf_nat (show a1 < s.length by omega)
      have k8 := get_getD (show a1 < s.length by omega)
      obtain ⟨k, hk⟩ : ∃ x, s.getD a1 0 = x := ⟨_, rfl⟩
      have hk256 : k < 256 := by
        rw [← hk]
        have hlt : a1 < s.length := by omega
        have e : s.getD a1 0 = s[a1] := by simp [hlt]
        rw [e]; exact hb _ (List.getElem_mem hlt)
      obtain ⟨n, hn⟩ : ∃ x, x = a + 2 + k := ⟨_, rfl⟩
      have k9 : F (w64 ((k : Nat) : Int)) (k : Int) := ⟨w64_of (by omega) (by omega)⟩
      have k10 : F (w64 ((a2 : Int) + (k : Int))) (n : Int) := ⟨by unfold w64; omega⟩
      have hT : pTake s a = if k < 1 ∨ 73 < k ∨ s.length < n then none else some (ov ((s.take n).drop a2), n) := by
        rw [pTake, if_neg h1, if_neg (fun h => h h2), ← ha1, hk, ha2, hn]
      rw [hx] at k5
      rw [hk] at k8
      by_cases h3 : k < 1
      · left
        have l1 : decide ((k : Int) < 1) = true := decide_eq_true (by omega)
        refine ⟨by rw [hT, if_pos (.inl h3)], ?_⟩
        simp only [Qa,Qb,Qc,Qd,Qe,Qf,Qg,Qh,Qi,Qj,Qk,Ql,Qm,Qn,Qo,Qp,Qq,Qr,Qs,Qt,Qu,Qv,Qw,Qx,Qy,Qz,QA,QB,QC,QD,QE,QF,QG,QH,QI,QJ,QK,QL,QM,QN,QO,QP,QQ,QR,QS,QT,QU,QV,QW,QX,QY,QZ,Q0,Q1,Q2,Q3,Q4,Q5,Q6,Q7,Q8,Q9,Xa,Xb,Xc,Xd,Xe,Xf,Xg,Xh,Xi,Xj,Xk,Xl,Xm,Xn,Xo,Xp,Xq,Xr,Xs,Xt,Xu,Xv,Xw,Xx,Xy,Xz,XA,XB,XC,XD,XE,XF,XG,XH,XI,XJ,XK,XL,XM,XN,XO,XP,XQ,XR,XS,XT,XU,XV,XW,XX,XY,XZ,X0,X1,X2,X3,X4,X5,X6,X7,X8,X9,Ya,Yb,Yc,Yd,Ye,Yf,Yg,Yh,Yi,Yj,Yk,Yl,Ym,Yn,Yo,Yp,Yq,Yr,Ys,Yt,Yu,Yv,Yw,Yx,Yy,Yz,YA,YB,YC,YD,YE,YF,YG,YH,YI,YJ,YK,YL,YM,YN,YO,YP,YQ,YR,YS,YT,YU,YV,YW,YX,YY,YZ,Y0,Y1,Y2,Y3,Y4,Y5,Y6,Y7,Y8,Y9,Za,Zb,Zc,Zd,Ze,Zf,Zg,Zh,Zi,Zj,Zk,Zl,Zm,Zn,Zo,Zp,Zq,Zr,Zs,Zt,Zu,Zv,Zw,Zx,Zy,Zz,ZA,ZB,ZC,ZD,ZE,ZF,ZG,ZH,ZI,ZJ,ZK,ZL,ZM,ZN,ZO,ZP,ZQ,ZR,ZS,ZT,ZU,ZV,ZW,ZX,ZY,ZZ,Z0,Z1,Z2,Z3,Z4,Z5,Z6,Z7,Z8,Z9,Ja,Jb,Jc,Jd,Je,Jf,Jg,Jh,Ji,Jj,Jk,Jl,Jm,Jn,Jo,Jp,Jq,Jr,Js,Jt,Ju,Jv,Jw,Jx,Jy,Jz,JA,JB,JC,JD,JE,JF,JG,JH,JI,JJ,JK,JL,JM,JN,JO,JP,JQ,JR,JS,JT,JU,JV,JW,JX,JY,JZ,J0,J1,J2,J3,J4,J5,J6,J7,J8,J9,Ka,Kb,Kc,Kd,Ke,Kf,Kg,Kh,Ki,Kj,Kk,Kl,Km,Kn,Ko,Kp,Kq,Kr,Ks,Kt,Ku,Kv,Kw,Kx,Ky,Kz,KA,KB,KC,KD,KE,KF,KG,KH,KI,KJ,KK,KL,KM,KN,KO,KP,KQ,KR,KS,KT,KU,KV,KW,KX,KY,KZ,K0,K1,K2,K3,K4,K5,K6,K7,K8,K9,Ga,Gb,Gc,Gd,Ge,Gf,Gg,Gh,Gi,Gj,Gk,Gl,Gm,Gn,Gp,Gq,Gr,Gs,Gt,Gu,Gv,Gw,Gx,Gy,Gz,GA,GB,GC,GD,GE,GF,GG,GH,GI,GJ,GK,GL,GM,GN,GO,GP,GQ,GR,GS,GT,Nat.le_refl,Nat.reduceLeDiff,List.drop_zero,us_take,us_drop,is_take,is_drop,List.take_zero,gn,if_true,if_false,Nat.reduceEqDiff,Int.reduceEq,reduceCtorEq,Nat.succ_ne_self,Nat.reduceAdd,Nat.zero_add,Nat.add_zero,Nat.reduceMul,Nat.mul_one,Nat.one_mul,Nat.zero_mul,Nat.sub_zero,decide_true,decide_false,Bool.and_self,Bool.and_true,Bool.true_and,Bool.false_and,Bool.and_false,Bool.not_true,Bool.not_false,List.length_cons,List.length_nil,us_len,is_len,tb_len,dl_len,us_set,is_set,tb_set,Nat.not_lt_zero,List.nil_append,us_rep,is_rep, k0, k1.eq, k2.eq, k3, k4, k5, k6, k7, k8, k9.eq, l1, hv]
      · have l1 : decide ((k : Int) < 1) = false := decide_eq_false (by omega)
        by_cases h4 : 73 < k
        · left
          have l2 : decide ((73 : Int) < (k : Int)) = true := decide_eq_true (by omega)
          refine ⟨by rw [hT, if_pos (.inr (.inl h4))], ?_⟩
          simp only [Qa,Qb,Qc,Qd,Qe,Qf,Qg,Qh,Qi,Qj,Qk,Ql,Qm,Qn,Qo,Qp,Qq,Qr,Qs,Qt,Qu,Qv,Qw,Qx,Qy,Qz,QA,QB,QC,QD,QE,QF,QG,QH,QI,QJ,QK,QL,QM,QN,QO,QP,QQ,QR,QS,QT,QU,QV,QW,QX,QY,QZ,Q0,Q1,Q2,Q3,Q4,Q5,Q6,Q7,Q8,Q9,Xa,Xb,Xc,Xd,Xe,Xf,Xg,Xh,Xi,Xj,Xk,Xl,Xm,Xn,Xo,Xp,Xq,Xr,Xs,Xt,Xu,Xv,Xw,Xx,Xy,Xz,XA,XB,XC,XD,XE,XF,XG,XH,XI,XJ,XK,XL,XM,XN,XO,XP,XQ,XR,XS,XT,XU,XV,XW,XX,XY,XZ,X0,X1,X2,X3,X4,X5,X6,X7,X8,X9,Ya,Yb,Yc,Yd,Ye,Yf,Yg,Yh,Yi,Yj,Yk,Yl,Ym,Yn,Yo,Yp,Yq,Yr,Ys,Yt,Yu,Yv,Yw,Yx,Yy,Yz,YA,YB,YC,YD,YE,YF,YG,YH,YI,YJ,YK,YL,YM,YN,YO,YP,YQ,YR,YS,YT,YU,YV,YW,YX,YY,YZ,Y0,Y1,Y2,Y3,Y4,Y5,Y6,Y7,Y8,Y9,Za,Zb,Zc,Zd,Ze,Zf,Zg,Zh,Zi,Zj,Zk,Zl,Zm,Zn,Zo,Zp,Zq,Zr,Zs,Zt,Zu,Zv,Zw,Zx,Zy,Zz,ZA,ZB,ZC,ZD,ZE,ZF,ZG,ZH,ZI,ZJ,ZK,ZL,ZM,ZN,ZO,ZP,ZQ,ZR,ZS,ZT,ZU,ZV,ZW,ZX,ZY,ZZ,Z0,Z1,Z2,Z3,Z4,Z5,Z6,Z7,Z8,Z9,Ja,Jb,Jc,Jd,Je,Jf,Jg,Jh,Ji,Jj,Jk,Jl,Jm,Jn,Jo,Jp,Jq,Jr,Js,Jt,Ju,Jv,Jw,Jx,Jy,Jz,JA,JB,JC,JD,JE,JF,JG,JH,JI,JJ,JK,JL,JM,JN,JO,JP,JQ,JR,JS,JT,JU,JV,JW,JX,JY,JZ,J0,J1,J2,J3,J4,J5,J6,J7,J8,J9,Ka,Kb,Kc,Kd,Ke,Kf,Kg,Kh,Ki,Kj,Kk,Kl,Km,Kn,Ko,Kp,Kq,Kr,Ks,Kt,Ku,Kv,Kw,Kx,Ky,Kz,KA,KB,KC,KD,KE,KF,KG,KH,KI,KJ,KK,KL,KM,KN,KO,KP,KQ,KR,KS,KT,KU,KV,KW,KX,KY,KZ,K0,K1,K2,K3,K4,K5,K6,K7,K8,K9,Ga,Gb,Gc,Gd,Ge,Gf,Gg,Gh,Gi,Gj,Gk,Gl,Gm,Gn,Gp,Gq,Gr,Gs,Gt,Gu,Gv,Gw,Gx,Gy,Gz,GA,GB,GC,GD,GE,GF,GG,GH,GI,GJ,GK,GL,GM,GN,GO,GP,GQ,GR,GS,GT,Nat.le_refl,Nat.reduceLeDiff,List.drop_zero,us_take,us_drop,is_take,is_drop,List.take_zero,gn,if_true,if_false,Nat.reduceEqDiff,Int.reduceEq,reduceCtorEq,Nat.succ_ne_self,Nat.reduceAdd,Nat.zero_add,Nat.add_zero,Nat.reduceMul,Nat.mul_one,Nat.one_mul,Nat.zero_mul,Nat.sub_zero,decide_true,decide_false,Bool.and_self,Bool.and_true,Bool.true_and,Bool.false_and,Bool.and_false,Bool.not_true,Bool.not_false,List.length_cons,List.length_nil,us_len,is_len,tb_len,dl_len,us_set,is_set,tb_set,Nat.not_lt_zero,List.nil_append,us_rep,is_rep, k0, k1.eq, k2.eq, k3, k4, k5, k6, k7, k8, k9.eq, l1, l2, hv]
        · have l2 : decide ((73 : Int) < (k : Int)) = false := decide_eq_false (by omega)
          by_cases h5 : s.length < n
          · left
            have l3 : decide ((s.length : Int) < (n : Int)) = true := decide_eq_true (by omega)
            refine ⟨by rw [hT, if_pos (.inr (.inr h5))], ?_⟩
            simp only [Qa,Qb,Qc,Qd,Qe,Qf,Qg,Qh,Qi,Qj,Qk,Ql,Qm,Qn,Qo,Qp,Qq,Qr,Qs,Qt,Qu,Qv,Qw,Qx,Qy,Qz,QA,QB,QC,QD,QE,QF,QG,QH,QI,QJ,QK,QL,QM,QN,QO,QP,QQ,QR,QS,QT,QU,QV,QW,QX,QY,QZ,Q0,Q1,Q2,Q3,Q4,Q5,Q6,Q7,Q8,Q9,Xa,Xb,Xc,Xd,Xe,Xf,Xg,Xh,Xi,Xj,Xk,Xl,Xm,Xn,Xo,Xp,Xq,Xr,Xs,Xt,Xu,Xv,Xw,Xx,Xy,Xz,XA,XB,XC,XD,XE,XF,XG,XH,XI,XJ,XK,XL,XM,XN,XO,XP,XQ,XR,XS,XT,XU,XV,XW,XX,XY,XZ,X0,X1,X2,X3,X4,X5,X6,X7,X8,X9,Ya,Yb,Yc,Yd,Ye,Yf,Yg,Yh,Yi,Yj,Yk,Yl,Ym,Yn,Yo,Yp,Yq,Yr,Ys,Yt,Yu,Yv,Yw,Yx,Yy,Yz,YA,YB,YC,YD,YE,YF,YG,YH,YI,YJ,YK,YL,YM,YN,YO,YP,YQ,YR,YS,YT,YU,YV,YW,YX,YY,YZ,Y0,Y1,Y2,Y3,Y4,Y5,Y6,Y7,Y8,Y9,Za,Zb,Zc,Zd,Ze,Zf,Zg,Zh,Zi,Zj,Zk,Zl,Zm,Zn,Zo,Zp,Zq,Zr,Zs,Zt,Zu,Zv,Zw,Zx,Zy,Zz,ZA,ZB,ZC,ZD,ZE,ZF,ZG,ZH,ZI,ZJ,ZK,ZL,ZM,ZN,ZO,ZP,ZQ,ZR,ZS,ZT,ZU,ZV,ZW,ZX,ZY,ZZ,Z0,Z1,Z2,Z3,Z4,Z5,Z6,Z7,Z8,Z9,Ja,Jb,Jc,Jd,Je,Jf,Jg,Jh,Ji,Jj,Jk,Jl,Jm,Jn,Jo,Jp,Jq,Jr,Js,Jt,Ju,Jv,Jw,Jx,Jy,Jz,JA,JB,JC,JD,JE,JF,JG,JH,JI,JJ,JK,JL,JM,JN,JO,JP,JQ,JR,JS,JT,JU,JV,JW,JX,JY,JZ,J0,J1,J2,J3,J4,J5,J6,J7,J8,J9,Ka,Kb,Kc,Kd,Ke,Kf,Kg,Kh,Ki,Kj,Kk,Kl,Km,Kn,Ko,Kp,Kq,Kr,Ks,Kt,Ku,Kv,Kw,Kx,Ky,Kz,KA,KB,KC,KD,KE,KF,KG,KH,KI,KJ,KK,KL,KM,KN,KO,KP,KQ,KR,KS,KT,KU,KV,KW,KX,KY,KZ,K0,K1,K2,K3,K4,K5,K6,K7,K8,K9,Ga,Gb,Gc,Gd,Ge,Gf,Gg,Gh,Gi,Gj,Gk,Gl,Gm,Gn,Gp,Gq,Gr,Gs,Gt,Gu,Gv,Gw,Gx,Gy,Gz,GA,GB,GC,GD,GE,GF,GG,GH,GI,GJ,GK,GL,GM,GN,GO,GP,GQ,GR,GS,GT,Nat.le_refl,Nat.reduceLeDiff,List.drop_zero,us_take,us_drop,is_take,is_drop,List.take_zero,gn,if_true,if_false,Nat.reduceEqDiff,Int.reduceEq,reduceCtorEq,Nat.succ_ne_self,Nat.reduceAdd,Nat.zero_add,Nat.add_zero,Nat.reduceMul,Nat.mul_one,Nat.one_mul,Nat.zero_mul,Nat.sub_zero,decide_true,decide_false,Bool.and_self,Bool.and_true,Bool.true_and,Bool.false_and,Bool.and_false,Bool.not_true,Bool.not_false,List.length_cons,List.length_nil,us_len,is_len,tb_len,dl_len,us_set,is_set,tb_set,Nat.not_lt_zero,List.nil_append,us_rep,is_rep, k0, k1.eq, k2.eq, k3, k4, k5, k6, k7, k8, k9.eq, k10.eq, l1, l2, l3, hv]
          · right
            have l3 : decide ((s.length : Int) < (n : Int)) = false := decide_eq_false (by omega)
            have l4 := ixOf_nat (show n < s.length + 1 by omega)
            have l5 := ixOf_nat (show a2 < n + 1 by omega)
            have hby : By ((s.take n).drop a2) := (hb.take n).drop a2
            have hln : ((s.take n).drop a2).length = k := by rw [List.length_drop, List.length_take]; omega
            have c1 := r_readL hby (by omega)
            have hvl := ov_lt hby
            rw [hln] at hvl
            refine ⟨_, _, by rw [hT, if_neg (by omega)], by omega, Nat.lt_of_lt_of_le hvl (Nat.pow_le_pow_right (by omega) (by omega)), ?_⟩
            obtain ⟨v, hv'⟩ : ∃ v, v = ov ((s.take n).drop a2) := ⟨_, rfl⟩
            rw [← hv'] at c1 ⊢
            have hz : ∀ (H : Heap), fzV false H 0 5 (num v) = some (num v) := fun H => Gy false H 0 4 _ 32 _
            simp only [Qa,Qb,Qc,Qd,Qe,Qf,Qg,Qh,Qi,Qj,Qk,Ql,Qm,Qn,Qo,Qp,Qq,Qr,Qs,Qt,Qu,Qv,Qw,Qx,Qy,Qz,QA,QB,QC,QD,QE,QF,QG,QH,QI,QJ,QK,QL,QM,QN,QO,QP,QQ,QR,QS,QT,QU,QV,QW,QX,QY,QZ,Q0,Q1,Q2,Q3,Q4,Q5,Q6,Q7,Q8,Q9,Xa,Xb,Xc,Xd,Xe,Xf,Xg,Xh,Xi,Xj,Xk,Xl,Xm,Xn,Xo,Xp,Xq,Xr,Xs,Xt,Xu,Xv,Xw,Xx,Xy,Xz,XA,XB,XC,XD,XE,XF,XG,XH,XI,XJ,XK,XL,XM,XN,XO,XP,XQ,XR,XS,XT,XU,XV,XW,XX,XY,XZ,X0,X1,X2,X3,X4,X5,X6,X7,X8,X9,Ya,Yb,Yc,Yd,Ye,Yf,Yg,Yh,Yi,Yj,Yk,Yl,Ym,Yn,Yo,Yp,Yq,Yr,Ys,Yt,Yu,Yv,Yw,Yx,Yy,Yz,YA,YB,YC,YD,YE,YF,YG,YH,YI,YJ,YK,YL,YM,YN,YO,YP,YQ,YR,YS,YT,YU,YV,YW,YX,YY,YZ,Y0,Y1,Y2,Y3,Y4,Y5,Y6,Y7,Y8,Y9,Za,Zb,Zc,Zd,Ze,Zf,Zg,Zh,Zi,Zj,Zk,Zl,Zm,Zn,Zo,Zp,Zq,Zr,Zs,Zt,Zu,Zv,Zw,Zx,Zy,Zz,ZA,ZB,ZC,ZD,ZE,ZF,ZG,ZH,ZI,ZJ,ZK,ZL,ZM,ZN,ZO,ZP,ZQ,ZR,ZS,ZT,ZU,ZV,ZW,ZX,ZY,ZZ,Z0,Z1,Z2,Z3,Z4,Z5,Z6,Z7,Z8,Z9,Ja,Jb,Jc,Jd,Je,Jf,Jg,Jh,Ji,Jj,Jk,Jl,Jm,Jn,Jo,Jp,Jq,Jr,Js,Jt,Ju,Jv,Jw,Jx,Jy,Jz,JA,JB,JC,JD,JE,JF,JG,JH,JI,JJ,JK,JL,JM,JN,JO,JP,JQ,JR,JS,JT,JU,JV,JW,JX,JY,JZ,J0,J1,J2,J3,J4,J5,J6,J7,J8,J9,Ka,Kb,Kc,Kd,Ke,Kf,Kg,Kh,Ki,Kj,Kk,Kl,Km,Kn,Ko,Kp,Kq,Kr,Ks,Kt,Ku,Kv,Kw,Kx,Ky,Kz,KA,KB,KC,KD,KE,KF,KG,KH,KI,KJ,KK,KL,KM,KN,KO,KP,KQ,KR,KS,KT,KU,KV,KW,KX,KY,KZ,K0,K1,K2,K3,K4,K5,K6,K7,K8,K9,Ga,Gb,Gc,Gd,Ge,Gf,Gg,Gh,Gi,Gj,Gk,Gl,Gm,Gn,Gp,Gq,Gr,Gs,Gt,Gu,Gv,Gw,Gx,Gy,Gz,GA,GB,GC,GD,GE,GF,GG,GH,GI,GJ,GK,GL,GM,GN,GO,GP,GQ,GR,GS,GT,Nat.le_refl,Nat.reduceLeDiff,List.drop_zero,us_take,us_drop,is_take,is_drop,List.take_zero,gn,if_true,if_false,Nat.reduceEqDiff,Int.reduceEq,reduceCtorEq,Nat.succ_ne_self,Nat.reduceAdd,Nat.zero_add,Nat.add_zero,Nat.reduceMul,Nat.mul_one,Nat.one_mul,Nat.zero_mul,Nat.sub_zero,decide_true,decide_false,Bool.and_self,Bool.and_true,Bool.true_and,Bool.false_and,Bool.and_false,Bool.not_true,Bool.not_false,List.length_cons,List.length_nil,us_len,is_len,tb_len,dl_len,us_set,is_set,tb_set,Nat.not_lt_zero,List.nil_append,us_rep,is_rep, k0, k1.eq, k2.eq, k3, k4, k5, k6, k7, k8, k9.eq, k10.eq, l1, l2, l3, l4, l5, c1, hz]
    · left
      rw [hx] at k5 h2
      have k6 : decide (x = 2) = false := decide_eq_false h2
      refine ⟨by rw [pTake, if_neg h1, if_pos (by rw [hx]; exact h2)], ?_⟩
      simp only [Qa,Qb,Qc,Qd,Qe,Qf,Qg,Qh,Qi,Qj,Qk,Ql,Qm,Qn,Qo,Qp,Qq,Qr,Qs,Qt,Qu,Qv,Qw,Qx,Qy,Qz,QA,QB,QC,QD,QE,QF,QG,QH,QI,QJ,QK,QL,QM,QN,QO,QP,QQ,QR,QS,QT,QU,QV,QW,QX,QY,QZ,Q0,Q1,Q2,Q3,Q4,Q5,Q6,Q7,Q8,Q9,Xa,Xb,Xc,Xd,Xe,Xf,Xg,Xh,Xi,Xj,Xk,Xl,Xm,Xn,Xo,Xp,Xq,Xr,Xs,Xt,Xu,Xv,Xw,Xx,Xy,Xz,XA,XB,XC,XD,XE,XF,XG,XH,XI,XJ,XK,XL,XM,XN,XO,XP,XQ,XR,XS,XT,XU,XV,XW,XX,XY,XZ,X0,X1,X2,X3,X4,X5,X6,X7,X8,X9,Ya,Yb,Yc,Yd,Ye,Yf,Yg,Yh,Yi,Yj,Yk,Yl,Ym,Yn,Yo,Yp,Yq,Yr,Ys,Yt,Yu,Yv,Yw,Yx,Yy,Yz,YA,YB,YC,YD,YE,YF,YG,YH,YI,YJ,YK,YL,YM,YN,YO,YP,YQ,YR,YS,YT,YU,YV,YW,YX,YY,YZ,Y0,Y1,Y2,Y3,Y4,Y5,Y6,Y7,Y8,Y9,Za,Zb,Zc,Zd,Ze,Zf,Zg,Zh,Zi,Zj,Zk,Zl,Zm,Zn,Zo,Zp,Zq,Zr,Zs,Zt,Zu,Zv,Zw,Zx,Zy,Zz,ZA,ZB,ZC,ZD,ZE,ZF,ZG,ZH,ZI,ZJ,ZK,ZL,ZM,ZN,ZO,ZP,ZQ,ZR,ZS,ZT,ZU,ZV,ZW,ZX,ZY,ZZ,Z0,Z1,Z2,Z3,Z4,Z5,Z6,Z7,Z8,Z9,Ja,Jb,Jc,Jd,Je,Jf,Jg,Jh,Ji,Jj,Jk,Jl,Jm,Jn,Jo,Jp,Jq,Jr,Js,Jt,Ju,Jv,Jw,Jx,Jy,Jz,JA,JB,JC,JD,JE,JF,JG,JH,JI,JJ,JK,JL,JM,JN,JO,JP,JQ,JR,JS,JT,JU,JV,JW,JX,JY,JZ,J0,J1,J2,J3,J4,J5,J6,J7,J8,J9,Ka,Kb,Kc,Kd,Ke,Kf,Kg,Kh,Ki,Kj,Kk,Kl,Km,Kn,Ko,Kp,Kq,Kr,Ks,Kt,Ku,Kv,Kw,Kx,Ky,Kz,KA,KB,KC,KD,KE,KF,KG,KH,KI,KJ,KK,KL,KM,KN,KO,KP,KQ,KR,KS,KT,KU,KV,KW,KX,KY,KZ,K0,K1,K2,K3,K4,K5,K6,K7,K8,K9,Ga,Gb,Gc,Gd,Ge,Gf,Gg,Gh,Gi,Gj,Gk,Gl,Gm,Gn,Gp,Gq,Gr,Gs,Gt,Gu,Gv,Gw,Gx,Gy,Gz,GA,GB,GC,GD,GE,GF,GG,GH,GI,GJ,GK,GL,GM,GN,GO,GP,GQ,GR,GS,GT,Nat.le_refl,Nat.reduceLeDiff,List.drop_zero,us_take,us_drop,is_take,is_drop,List.take_zero,gn,if_true,if_false,Nat.reduceEqDiff,Int.reduceEq,reduceCtorEq,Nat.succ_ne_self,Nat.reduceAdd,Nat.zero_add,Nat.add_zero,Nat.reduceMul,Nat.mul_one,Nat.one_mul,Nat.zero_mul,Nat.sub_zero,decide_true,decide_false,Bool.and_self,Bool.and_true,Bool.true_and,Bool.false_and,Bool.and_false,Bool.not_true,Bool.not_false,List.length_cons,List.length_nil,us_len,is_len,tb_len,dl_len,us_set,is_set,tb_set,Nat.not_lt_zero,List.nil_append,us_rep,is_rep, k0, k1.eq, k3, k4, k5, k6, hv]

def atOf : List Nat → Nat
  | _ :: 129 :: _ => 3
  | _ => 2

theorem pTake_write {pre rest : List Nat} {x a : Nat} (hx : x < M) (ha : pre.length = a) : pTake (pre ++ (pField 2 (pNum x) ++ rest)) a = some (x, a + (pField 2 (pNum x)).length) := by
  have hl := pNum_len hx
  have e : pField 2 (pNum x) = 2 :: (pNum x).length :: pNum x := by
    unfold pField; rw [if_pos (by omega), Nat.mod_eq_of_lt (by omega)]
  rw [e]
  obtain ⟨N, hN⟩ : ∃ N, N = pNum x := ⟨_, rfl⟩
  have hov := (ov_pNum hx).1
  rw [← hN] at hov hl ⊢
  have e1 : (pre ++ (2 :: N.length :: N ++ rest)).length = a + 2 + N.length + rest.length := by simp; omega
  have e2 : (pre ++ (2 :: N.length :: N ++ rest)).getD a 0 = 2 := by
    rw [List.getD_eq_getElem?_getD, List.getElem?_append_right (by omega), ha, Nat.sub_self]; rfl
  have e3 : (pre ++ (2 :: N.length :: N ++ rest)).getD (a + 1) 0 = N.length := by
    rw [List.getD_eq_getElem?_getD, List.getElem?_append_right (by omega), ha, show a + 1 - a = 1 by omega]; rfl
  have e4 : ((pre ++ (2 :: N.length :: N ++ rest)).take (a + 2 + N.length)).drop (a + 2) = N := by
    have h1 : pre ++ (2 :: N.length :: N ++ rest) = (pre ++ [2, N.length]) ++ (N ++ rest) := by simp
    have h2 : (pre ++ [2, N.length]).length = a + 2 := by simp; omega
    rw [h1, List.take_append, h2, List.take_of_length_le (by omega), show a + 2 + N.length - (a + 2) = N.length by omega, List.take_left, List.drop_append, h2, Nat.sub_self, List.drop_zero, List.drop_of_length_le (by omega), List.nil_append]
  rw [pTake, if_neg (by omega), if_neg (by rw [e2]; simp), e3, if_neg (by omega), e4, hov]
  simp; omega

theorem takes_write {r t : Nat} (hr : r < M) (ht : t < M) : ∃ n m, pTake (pPut r t) (atOf (pPut r t)) = some (r, n) ∧ pTake (pPut r t) n = some (t, m) := by
  obtain ⟨h1, h2, h3, h4, h5⟩ := body_len hr ht
  have e : pPut r t = pField 48 (pField 2 (pNum r) ++ pField 2 (pNum t)) := rfl
  have key : ∀ pre : List Nat, pPut r t = pre ++ (pField 2 (pNum r) ++ pField 2 (pNum t)) → atOf (pPut r t) = pre.length → ∃ n m, pTake (pPut r t) (atOf (pPut r t)) = some (r, n) ∧ pTake (pPut r t) n = some (t, m) := by
    intro pre hp ha
    rw [ha, hp]
    have e2 : pre ++ (pField 2 (pNum r) ++ pField 2 (pNum t)) = (pre ++ pField 2 (pNum r)) ++ (pField 2 (pNum t) ++ []) := by simp
    have q2 := pTake_write (pre := pre ++ pField 2 (pNum r)) (rest := []) ht (a := pre.length + (pField 2 (pNum r)).length) (by simp)
    rw [← e2] at q2
    exact ⟨_, _, pTake_write hr rfl, q2⟩
  obtain ⟨B, hB⟩ : ∃ B, B = pField 2 (pNum r) ++ pField 2 (pNum t) := ⟨_, rfl⟩
  rw [← hB] at e h1 key
  obtain ⟨c, hc⟩ : ∃ c, c = B.length % 256 := ⟨_, rfl⟩
  by_cases h : B.length < 128
  · have e2 : pPut r t = [48, c] ++ B := by rw [e, pField, if_pos h, ← hc]; rfl
    refine key [48, c] e2 ?_
    rw [e2]
    have hne : c ≠ 129 := by omega
    show atOf (48 :: c :: B) = 2
    unfold atOf
    split
    · rename_i heq
      exact absurd (List.cons.inj (List.cons.inj heq).2).1 hne
    · rfl
  · have e2 : pPut r t = [48, 129, c] ++ B := by rw [e, pField, if_neg h, ← hc]; rfl
    refine key [48, 129, c] e2 ?_
    rw [e2]
    rfl

theorem pGet_takes {s : List Nat} (hb : By s) : (∃ r t, r < M ∧ t < M ∧ pGet s = (r + M * t, 0) ∧ s = pPut r t ∧ ∃ n m, pTake s (atOf s) = some (r, n) ∧ pTake s n = some (t, m)) ∨ (pGet s = (0, 2200) ∧ ∀ r t, r < M → t < M → s ≠ pPut r t) := by
  rcases pGet_cases hb with ⟨r, t, h1, h2, h3, h4⟩ | h
  · obtain ⟨n, m, h5, h6⟩ := takes_write h1 h2
    rw [h4] at h5 h6
    exact .inl ⟨r, t, h1, h2, h3, h4.symm, n, m, h5, h6⟩
  · refine .inr ⟨h, fun r t hr ht e => ?_⟩
    rw [e, pGet_pPut hr ht] at h
    exact absurd (congrArg Prod.snd h) (by simp)

theorem r_Undo {s : List Nat} (hs : s.length < 9223372036854775808) (hb : By s) : Run T f_curvetref13_Undo [.s s] [] = some (.tup [widev (pGet s).1, .i ((pGet s).2 : Int)], []) := by
  rw [Run_at T _ (show T f_curvetref13_Undo = some m_curvetref13_Undo from rfl)]
  simp only [c_curvetref13_Undo, zero18]
  have k0 : decide (s.length < 9223372036854775808) = true := decide_eq_true hs
  obtain ⟨a, ha⟩ : ∃ a, a = atOf s := ⟨_, rfl⟩
  have ha3 : a < 4 := by rw [ha]; unfold atOf; split <;> omega
  have e3 : ((2200 : Nat) : Int) = 2200 := rfl
  have e4 : ((0 : Nat) : Int) = 0 := rfl
  -- where the first number stands
  have hat : (decide ((1 : Int) < (s.length : Int)) = false ∧ a = 2) ∨ (decide ((1 : Int) < (s.length : Int)) = true ∧ ∃ x, ixOf s.length (.i 1) = some 1 ∧ s[1]? = some x ∧ ((decide (x = 129) = false ∧ a = 2) ∨ (decide (x = 129) = true ∧ a = 3))) := by
    rw [ha]
    match s with
    | [] => left; exact ⟨rfl, rfl⟩
    | [x] => left; exact ⟨rfl, by unfold atOf; rfl⟩
    | x :: y :: r =>
      right
      have hi1 := ixOf_nat (n := (x :: y :: r).length) (k := 1) (by simp)
      refine ⟨decide_eq_true (by simp; omega), y, hi1, rfl, ?_⟩
      by_cases hy : y = 129
      · right; subst hy; exact ⟨rfl, rfl⟩
      · left
        refine ⟨decide_eq_false hy, ?_⟩
        unfold atOf
        split
        · rename_i heq
          exact absurd (List.cons.inj (List.cons.inj heq).2).1 hy
        · rfl
  have hG := pGet_takes hb
  rw [← ha] at hG
  have bits : ∀ v, v < 2 ^ (8 * 73) → Run T f_curvetref1_Bits [num v] [] = some (.i ((bl v : Nat) : Int), []) ∧ Run T f_curvetref1_Nat [num v] [] = some (natv v, []) := fun v hv => by
    have hf : Fit v := Fit.of_lt (n := 19) (Nat.lt_of_lt_of_le hv (Nat.pow_le_pow_right (by omega) (by omega))) (by omega)
    exact ⟨r_Bits hf, r_Nat hf⟩
  have big : ∀ v : Nat, decide ((576 : Int) < ((bl v : Nat) : Int)) = decide (M ≤ v) := fun v => by
    have : bl v ≤ 576 ↔ v < M := bl_le_iff
    by_cases h : M ≤ v
    · rw [decide_eq_true h, decide_eq_true (by omega)]
    · rw [decide_eq_false h, decide_eq_false (by omega)]
  -- the run from the first number's place on
  have main : ∀ (R : Option (V × Heap)), R = some (.tup [widev (pGet s).1, .i ((pGet s).2 : Int)], []) → True := fun _ _ => trivial
  rcases r_take (a := a) hs hb (by omega) with ⟨t1, c1⟩ | ⟨r, n, t1, t2, t3, c1⟩
  · have hg : pGet s = (0, 2200) := by
      rcases hG with ⟨r, t, _, _, _, _, n, m, h1, _⟩ | h
      · rw [t1] at h1; cases h1
      · exact h.1
    rw [hg]
    rcases hat with ⟨l1, l2⟩ | ⟨l1, x, l2, l3, ⟨l4, l5⟩ | ⟨l4, l5⟩⟩
    · rw [l2] at c1
      have e2 : ((2 : Nat) : Int) = 2 := rfl
      rw [e2] at c1
      simp only [Qa,Qb,Qc,Qd,Qe,Qf,Qg,Qh,Qi,Qj,Qk,Ql,Qm,Qn,Qo,Qp,Qq,Qr,Qs,Qt,Qu,Qv,Qw,Qx,Qy,Qz,QA,QB,QC,QD,QE,QF,QG,QH,QI,QJ,QK,QL,QM,QN,QO,QP,QQ,QR,QS,QT,QU,QV,QW,QX,QY,QZ,Q0,Q1,Q2,Q3,Q4,Q5,Q6,Q7,Q8,Q9,Xa,Xb,Xc,Xd,Xe,Xf,Xg,Xh,Xi,Xj,Xk,Xl,Xm,Xn,Xo,Xp,Xq,Xr,Xs,Xt,Xu,Xv,Xw,Xx,Xy,Xz,XA,XB,XC,XD,XE,XF,XG,XH,XI,XJ,XK,XL,XM,XN,XO,XP,XQ,XR,XS,XT,XU,XV,XW,XX,XY,XZ,X0,X1,X2,X3,X4,X5,X6,X7,X8,X9,Ya,Yb,Yc,Yd,Ye,Yf,Yg,Yh,Yi,Yj,Yk,Yl,Ym,Yn,Yo,Yp,Yq,Yr,Ys,Yt,Yu,Yv,Yw,Yx,Yy,Yz,YA,YB,YC,YD,YE,YF,YG,YH,YI,YJ,YK,YL,YM,YN,YO,YP,YQ,YR,YS,YT,YU,YV,YW,YX,YY,YZ,Y0,Y1,Y2,Y3,Y4,Y5,Y6,Y7,Y8,Y9,Za,Zb,Zc,Zd,Ze,Zf,Zg,Zh,Zi,Zj,Zk,Zl,Zm,Zn,Zo,Zp,Zq,Zr,Zs,Zt,Zu,Zv,Zw,Zx,Zy,Zz,ZA,ZB,ZC,ZD,ZE,ZF,ZG,ZH,ZI,ZJ,ZK,ZL,ZM,ZN,ZO,ZP,ZQ,ZR,ZS,ZT,ZU,ZV,ZW,ZX,ZY,ZZ,Z0,Z1,Z2,Z3,Z4,Z5,Z6,Z7,Z8,Z9,Ja,Jb,Jc,Jd,Je,Jf,Jg,Jh,Ji,Jj,Jk,Jl,Jm,Jn,Jo,Jp,Jq,Jr,Js,Jt,Ju,Jv,Jw,Jx,Jy,Jz,JA,JB,JC,JD,JE,JF,JG,JH,JI,JJ,JK,JL,JM,JN,JO,JP,JQ,JR,JS,JT,JU,JV,JW,JX,JY,JZ,J0,J1,J2,J3,J4,J5,J6,J7,J8,J9,Ka,Kb,Kc,Kd,Ke,Kf,Kg,Kh,Ki,Kj,Kk,Kl,Km,Kn,Ko,Kp,Kq,Kr,Ks,Kt,Ku,Kv,Kw,Kx,Ky,Kz,KA,KB,KC,KD,KE,KF,KG,KH,KI,KJ,KK,KL,KM,KN,KO,KP,KQ,KR,KS,KT,KU,KV,KW,KX,KY,KZ,K0,K1,K2,K3,K4,K5,K6,K7,K8,K9,Ga,Gb,Gc,Gd,Ge,Gf,Gg,Gh,Gi,Gj,Gk,Gl,Gm,Gn,Gp,Gq,Gr,Gs,Gt,Gu,Gv,Gw,Gx,Gy,Gz,GA,GB,GC,GD,GE,GF,GG,GH,GI,GJ,GK,GL,GM,GN,GO,GP,GQ,GR,GS,GT,Nat.le_refl,Nat.reduceLeDiff,List.drop_zero,us_take,us_drop,is_take,is_drop,List.take_zero,gn,if_true,if_false,Nat.reduceEqDiff,Int.reduceEq,reduceCtorEq,Nat.succ_ne_self,Nat.reduceAdd,Nat.zero_add,Nat.add_zero,Nat.reduceMul,Nat.mul_one,Nat.one_mul,Nat.zero_mul,Nat.sub_zero,decide_true,decide_false,Bool.and_self,Bool.and_true,Bool.true_and,Bool.false_and,Bool.and_false,Bool.not_true,Bool.not_false,List.length_cons,List.length_nil,us_len,is_len,tb_len,dl_len,us_set,is_set,tb_set,Nat.not_lt_zero,List.nil_append,us_rep,is_rep, k0, c1, l1, e3, widev_noHp]
    · rw [l5] at c1
      have e2 : ((2 : Nat) : Int) = 2 := rfl
      rw [e2] at c1
      simp only [Qa,Qb,Qc,Qd,Qe,Qf,Qg,Qh,Qi,Qj,Qk,Ql,Qm,Qn,Qo,Qp,Qq,Qr,Qs,Qt,Qu,Qv,Qw,Qx,Qy,Qz,QA,QB,QC,QD,QE,QF,QG,QH,QI,QJ,QK,QL,QM,QN,QO,QP,QQ,QR,QS,QT,QU,QV,QW,QX,QY,QZ,Q0,Q1,Q2,Q3,Q4,Q5,Q6,Q7,Q8,Q9,Xa,Xb,Xc,Xd,Xe,Xf,Xg,Xh,Xi,Xj,Xk,Xl,Xm,Xn,Xo,Xp,Xq,Xr,Xs,Xt,Xu,Xv,Xw,Xx,Xy,Xz,XA,XB,XC,XD,XE,XF,XG,XH,XI,XJ,XK,XL,XM,XN,XO,XP,XQ,XR,XS,XT,XU,XV,XW,XX,XY,XZ,X0,X1,X2,X3,X4,X5,X6,X7,X8,X9,Ya,Yb,Yc,Yd,Ye,Yf,Yg,Yh,Yi,Yj,Yk,Yl,Ym,Yn,Yo,Yp,Yq,Yr,Ys,Yt,Yu,Yv,Yw,Yx,Yy,Yz,YA,YB,YC,YD,YE,YF,YG,YH,YI,YJ,YK,YL,YM,YN,YO,YP,YQ,YR,YS,YT,YU,YV,YW,YX,YY,YZ,Y0,Y1,Y2,Y3,Y4,Y5,Y6,Y7,Y8,Y9,Za,Zb,Zc,Zd,Ze,Zf,Zg,Zh,Zi,Zj,Zk,Zl,Zm,Zn,Zo,Zp,Zq,Zr,Zs,Zt,Zu,Zv,Zw,Zx,Zy,Zz,ZA,ZB,ZC,ZD,ZE,ZF,ZG,ZH,ZI,ZJ,ZK,ZL,ZM,ZN,ZO,ZP,ZQ,ZR,ZS,ZT,ZU,ZV,ZW,ZX,ZY,ZZ,Z0,Z1,Z2,Z3,Z4,Z5,Z6,Z7,Z8,Z9,Ja,Jb,Jc,Jd,Je,Jf,Jg,Jh,Ji,Jj,Jk,Jl,Jm,Jn,Jo,Jp,Jq,Jr,Js,Jt,Ju,Jv,Jw,Jx,Jy,Jz,JA,JB,JC,JD,JE,JF,JG,JH,JI,JJ,JK,JL,JM,JN,JO,JP,JQ,JR,JS,JT,JU,JV,JW,JX,JY,JZ,J0,J1,J2,J3,J4,J5,J6,J7,J8,J9,Ka,Kb,Kc,Kd,Ke,Kf,Kg,Kh,Ki,Kj,Kk,Kl,Km,Kn,Ko,Kp,Kq,Kr,Ks,Kt,Ku,Kv,Kw,Kx,Ky,Kz,KA,KB,KC,KD,KE,KF,KG,KH,KI,KJ,KK,KL,KM,KN,KO,KP,KQ,KR,KS,KT,KU,KV,KW,KX,KY,KZ,K0,K1,K2,K3,K4,K5,K6,K7,K8,K9,Ga,Gb,Gc,Gd,Ge,Gf,Gg,Gh,Gi,Gj,Gk,Gl,Gm,Gn,Gp,Gq,Gr,Gs,Gt,Gu,Gv,Gw,Gx,Gy,Gz,GA,GB,GC,GD,GE,GF,GG,GH,GI,GJ,GK,GL,GM,GN,GO,GP,GQ,GR,GS,GT,Nat.le_refl,Nat.reduceLeDiff,List.drop_zero,us_take,us_drop,is_take,is_drop,List.take_zero,gn,if_true,if_false,Nat.reduceEqDiff,Int.reduceEq,reduceCtorEq,Nat.succ_ne_self,Nat.reduceAdd,Nat.zero_add,Nat.add_zero,Nat.reduceMul,Nat.mul_one,Nat.one_mul,Nat.zero_mul,Nat.sub_zero,decide_true,decide_false,Bool.and_self,Bool.and_true,Bool.true_and,Bool.false_and,Bool.and_false,Bool.not_true,Bool.not_false,List.length_cons,List.length_nil,us_len,is_len,tb_len,dl_len,us_set,is_set,tb_set,Nat.not_lt_zero,List.nil_append,us_rep,is_rep, k0, c1, l1, l2, l3, l4, e3, widev_noHp]
    · rw [l5] at c1
      have e2 : ((3 : Nat) : Int) = 3 := rfl
      rw [e2] at c1
      simp only [Qa,Qb,Qc,Qd,Qe,Qf,Qg,Qh,Qi,Qj,Qk,Ql,Qm,Qn,Qo,Qp,Qq,Qr,Qs,Qt,Qu,Qv,Qw,Qx,Qy,Qz,QA,QB,QC,QD,QE,QF,QG,QH,QI,QJ,QK,QL,QM,QN,QO,QP,QQ,QR,QS,QT,QU,QV,QW,QX,QY,QZ,Q0,Q1,Q2,Q3,Q4,Q5,Q6,Q7,Q8,Q9,Xa,Xb,Xc,Xd,Xe,Xf,Xg,Xh,Xi,Xj,Xk,Xl,Xm,Xn,Xo,Xp,Xq,Xr,Xs,Xt,Xu,Xv,Xw,Xx,Xy,Xz,XA,XB,XC,XD,XE,XF,XG,XH,XI,XJ,XK,XL,XM,XN,XO,XP,XQ,XR,XS,XT,XU,XV,XW,XX,XY,XZ,X0,X1,X2,X3,X4,X5,X6,X7,X8,X9,Ya,Yb,Yc,Yd,Ye,Yf,Yg,Yh,Yi,Yj,Yk,Yl,Ym,Yn,Yo,Yp,Yq,Yr,Ys,Yt,Yu,Yv,Yw,Yx,Yy,Yz,YA,YB,YC,YD,YE,YF,YG,YH,YI,YJ,YK,YL,YM,YN,YO,YP,YQ,YR,YS,YT,YU,YV,YW,YX,YY,YZ,Y0,Y1,Y2,Y3,Y4,Y5,Y6,Y7,Y8,Y9,Za,Zb,Zc,Zd,Ze,Zf,Zg,Zh,Zi,Zj,Zk,Zl,Zm,Zn,Zo,Zp,Zq,Zr,Zs,Zt,Zu,Zv,Zw,Zx,Zy,Zz,ZA,ZB,ZC,ZD,ZE,ZF,ZG,ZH,ZI,ZJ,ZK,ZL,ZM,ZN,ZO,ZP,ZQ,ZR,ZS,ZT,ZU,ZV,ZW,ZX,ZY,ZZ,Z0,Z1,Z2,Z3,Z4,Z5,Z6,Z7,Z8,Z9,Ja,Jb,Jc,Jd,Je,Jf,Jg,Jh,Ji,Jj,Jk,Jl,Jm,Jn,Jo,Jp,Jq,Jr,Js,Jt,Ju,Jv,Jw,Jx,Jy,Jz,JA,JB,JC,JD,JE,JF,JG,JH,JI,JJ,JK,JL,JM,JN,JO,JP,JQ,JR,JS,JT,JU,JV,JW,JX,JY,JZ,J0,J1,J2,J3,J4,J5,J6,J7,J8,J9,Ka,Kb,Kc,Kd,Ke,Kf,Kg,Kh,Ki,Kj,Kk,Kl,Km,Kn,Ko,Kp,Kq,Kr,Ks,Kt,Ku,Kv,Kw,Kx,Ky,Kz,KA,KB,KC,KD,KE,KF,KG,KH,KI,KJ,KK,KL,KM,KN,KO,KP,KQ,KR,KS,KT,KU,KV,KW,KX,KY,KZ,K0,K1,K2,K3,K4,K5,K6,K7,K8,K9,Ga,Gb,Gc,Gd,Ge,Gf,Gg,Gh,Gi,Gj,Gk,Gl,Gm,Gn,Gp,Gq,Gr,Gs,Gt,Gu,Gv,Gw,Gx,Gy,Gz,GA,GB,GC,GD,GE,GF,GG,GH,GI,GJ,GK,GL,GM,GN,GO,GP,GQ,GR,GS,GT,Nat.le_refl,Nat.reduceLeDiff,List.drop_zero,us_take,us_drop,is_take,is_drop,List.take_zero,gn,if_true,if_false,Nat.reduceEqDiff,Int.reduceEq,reduceCtorEq,Nat.succ_ne_self,Nat.reduceAdd,Nat.zero_add,Nat.add_zero,Nat.reduceMul,Nat.mul_one,Nat.one_mul,Nat.zero_mul,Nat.sub_zero,decide_true,decide_false,Bool.and_self,Bool.and_true,Bool.true_and,Bool.false_and,Bool.and_false,Bool.not_true,Bool.not_false,List.length_cons,List.length_nil,us_len,is_len,tb_len,dl_len,us_set,is_set,tb_set,Nat.not_lt_zero,List.nil_append,us_rep,is_rep, k0, c1, l1, l2, l3, l4, e3, widev_noHp]
  · obtain ⟨c2, c3⟩ := bits r t3
    have g2 := big r
    have tail : ∃ (v : Nat) (m : Int) (ok : Bool), Run T f_curvetref13_take [.s s, .i (n : Int)] [] = some (.tup [num v, .i m, .b ok], []) ∧
        ((ok = false ∧ pGet s = (0, 2200)) ∨ (ok = true ∧ v < 2 ^ (8 * 73) ∧ ((M ≤ r ∧ pGet s = (0, 2200)) ∨ (r < M ∧ M ≤ v ∧ pGet s = (0, 2200)) ∨ (r < M ∧ v < M ∧ ((pPut r v == s) = false ∧ pGet s = (0, 2200) ∨ (pPut r v == s) = true ∧ pGet s = (r + M * v, 0)))))) := by
      rcases r_take (a := n) hs hb (by omega) with ⟨u1, d1⟩ | ⟨v, m, u1, u2, u3, d1⟩
      · refine ⟨_, _, _, d1, .inl ⟨rfl, ?_⟩⟩
        rcases hG with ⟨r', t', _, _, _, _, n', m', h1, h2⟩ | h
        · rw [t1] at h1
          cases h1
          rw [u1] at h2; cases h2
        · exact h.1
      · refine ⟨_, _, _, d1, .inr ⟨rfl, u3, ?_⟩⟩
        rcases hG with ⟨r', t', q1, q2, q3, q4, n', m', h1, h2⟩ | h
        · rw [t1] at h1
          cases h1
          rw [u1] at h2
          cases h2
          exact .inr (.inr ⟨q1, q2, .inr ⟨by rw [← q4]; simp, q3⟩⟩)
        · by_cases g1 : M ≤ r
          · exact .inl ⟨g1, h.1⟩
          · by_cases g2 : M ≤ v
            · exact .inr (.inl ⟨by omega, g2, h.1⟩)
            · refine .inr (.inr ⟨by omega, by omega, .inl ⟨?_, h.1⟩⟩)
              have := h.2 r v (by omega) (by omega)
              simp; exact fun e => this e.symm
    obtain ⟨v, m, ok, d1, hc⟩ := tail
    have fin : ∃ (z : Nat) (q1 q2 : Bool), decide ((576 : Int) < ((bl r : Nat) : Int)) = q1 ∧ decide ((576 : Int) < ((bl v : Nat) : Int)) = q2 ∧ True := ⟨0, _, _, rfl, rfl, trivial⟩
    rcases hc with ⟨rfl, hg⟩ | ⟨rfl, hv, hc⟩
    · rw [hg]
      rcases hat with ⟨l1, l2⟩ | ⟨l1, x, l2, l3, ⟨l4, l5⟩ | ⟨l4, l5⟩⟩
      · rw [l2] at c1
        have e2 : ((2 : Nat) : Int) = 2 := rfl
        rw [e2] at c1
        simp only [Qa,Qb,Qc,Qd,Qe,Qf,Qg,Qh,Qi,Qj,Qk,Ql,Qm,Qn,Qo,Qp,Qq,Qr,Qs,Qt,Qu,Qv,Qw,Qx,Qy,Qz,QA,QB,QC,QD,QE,QF,QG,QH,QI,QJ,QK,QL,QM,QN,QO,QP,QQ,QR,QS,QT,QU,QV,QW,QX,QY,QZ,Q0,Q1,Q2,Q3,Q4,Q5,Q6,Q7,Q8,Q9,Xa,Xb,Xc,Xd,Xe,Xf,Xg,Xh,Xi,Xj,Xk,Xl,Xm,Xn,Xo,Xp,Xq,Xr,Xs,Xt,Xu,Xv,Xw,Xx,Xy,Xz,XA,XB,XC,XD,XE,XF,XG,XH,XI,XJ,XK,XL,XM,XN,XO,XP,XQ,XR,XS,XT,XU,XV,XW,XX,XY,XZ,X0,X1,X2,X3,X4,X5,X6,X7,X8,X9,Ya,Yb,Yc,Yd,Ye,Yf,Yg,Yh,Yi,Yj,Yk,Yl,Ym,Yn,Yo,Yp,Yq,Yr,Ys,Yt,Yu,Yv,Yw,Yx,Yy,Yz,YA,YB,YC,YD,YE,YF,YG,YH,YI,YJ,YK,YL,YM,YN,YO,YP,YQ,YR,YS,YT,YU,YV,YW,YX,YY,YZ,Y0,Y1,Y2,Y3,Y4,Y5,Y6,Y7,Y8,Y9,Za,Zb,Zc,Zd,Ze,Zf,Zg,Zh,Zi,Zj,Zk,Zl,Zm,Zn,Zo,Zp,Zq,Zr,Zs,Zt,Zu,Zv,Zw,Zx,Zy,Zz,ZA,ZB,ZC,ZD,ZE,ZF,ZG,ZH,ZI,ZJ,ZK,ZL,ZM,ZN,ZO,ZP,ZQ,ZR,ZS,ZT,ZU,ZV,ZW,ZX,ZY,ZZ,Z0,Z1,Z2,Z3,Z4,Z5,Z6,Z7,Z8,Z9,Ja,Jb,Jc,Jd,Je,Jf,Jg,Jh,Ji,Jj,Jk,Jl,Jm,Jn,Jo,Jp,Jq,Jr,Js,Jt,Ju,Jv,Jw,Jx,Jy,Jz,JA,JB,JC,JD,JE,JF,JG,JH,JI,JJ,JK,JL,JM,JN,JO,JP,JQ,JR,JS,JT,JU,JV,JW,JX,JY,JZ,J0,J1,J2,J3,J4,J5,J6,J7,J8,J9,Ka,Kb,Kc,Kd,Ke,Kf,Kg,Kh,Ki,Kj,Kk,Kl,Km,Kn,Ko,Kp,Kq,Kr,Ks,Kt,Ku,Kv,Kw,Kx,Ky,Kz,KA,KB,KC,KD,KE,KF,KG,KH,KI,KJ,KK,KL,KM,KN,KO,KP,KQ,KR,KS,KT,KU,KV,KW,KX,KY,KZ,K0,K1,K2,K3,K4,K5,K6,K7,K8,K9,Ga,Gb,Gc,Gd,Ge,Gf,Gg,Gh,Gi,Gj,Gk,Gl,Gm,Gn,Gp,Gq,Gr,Gs,Gt,Gu,Gv,Gw,Gx,Gy,Gz,GA,GB,GC,GD,GE,GF,GG,GH,GI,GJ,GK,GL,GM,GN,GO,GP,GQ,GR,GS,GT,Nat.le_refl,Nat.reduceLeDiff,List.drop_zero,us_take,us_drop,is_take,is_drop,List.take_zero,gn,if_true,if_false,Nat.reduceEqDiff,Int.reduceEq,reduceCtorEq,Nat.succ_ne_self,Nat.reduceAdd,Nat.zero_add,Nat.add_zero,Nat.reduceMul,Nat.mul_one,Nat.one_mul,Nat.zero_mul,Nat.sub_zero,decide_true,decide_false,Bool.and_self,Bool.and_true,Bool.true_and,Bool.false_and,Bool.and_false,Bool.not_true,Bool.not_false,List.length_cons,List.length_nil,us_len,is_len,tb_len,dl_len,us_set,is_set,tb_set,Nat.not_lt_zero,List.nil_append,us_rep,is_rep, k0, c1, d1, l1, e3, widev_noHp]
      · rw [l5] at c1
        have e2 : ((2 : Nat) : Int) = 2 := rfl
        rw [e2] at c1
        simp only [Qa,Qb,Qc,Qd,Qe,Qf,Qg,Qh,Qi,Qj,Qk,Ql,Qm,Qn,Qo,Qp,Qq,Qr,Qs,Qt,Qu,Qv,Qw,Qx,Qy,Qz,QA,QB,QC,QD,QE,QF,QG,QH,QI,QJ,QK,QL,QM,QN,QO,QP,QQ,QR,QS,QT,QU,QV,QW,QX,QY,QZ,Q0,Q1,Q2,Q3,Q4,Q5,Q6,Q7,Q8,Q9,Xa,Xb,Xc,Xd,Xe,Xf,Xg,Xh,Xi,Xj,Xk,Xl,Xm,Xn,Xo,Xp,Xq,Xr,Xs,Xt,Xu,Xv,Xw,Xx,Xy,Xz,XA,XB,XC,XD,XE,XF,XG,XH,XI,XJ,XK,XL,XM,XN,XO,XP,XQ,XR,XS,XT,XU,XV,XW,XX,XY,XZ,X0,X1,X2,X3,X4,X5,X6,X7,X8,X9,Ya,Yb,Yc,Yd,Ye,Yf,Yg,Yh,Yi,Yj,Yk,Yl,Ym,Yn,Yo,Yp,Yq,Yr,Ys,Yt,Yu,Yv,Yw,Yx,Yy,Yz,YA,YB,YC,YD,YE,YF,YG,YH,YI,YJ,YK,YL,YM,YN,YO,YP,YQ,YR,YS,YT,YU,YV,YW,YX,YY,YZ,Y0,Y1,Y2,Y3,Y4,Y5,Y6,Y7,Y8,Y9,Za,Zb,Zc,Zd,Ze,Zf,Zg,Zh,Zi,Zj,Zk,Zl,Zm,Zn,Zo,Zp,Zq,Zr,Zs,Zt,Zu,Zv,Zw,Zx,Zy,Zz,ZA,ZB,ZC,ZD,ZE,ZF,ZG,ZH,ZI,ZJ,ZK,ZL,ZM,ZN,ZO,ZP,ZQ,ZR,ZS,ZT,ZU,ZV,ZW,ZX,ZY,ZZ,Z0,Z1,Z2,Z3,Z4,Z5,Z6,Z7,Z8,Z9,Ja,Jb,Jc,Jd,Je,Jf,Jg,Jh,Ji,Jj,Jk,Jl,Jm,Jn,Jo,Jp,Jq,Jr,Js,Jt,Ju,Jv,Jw,Jx,Jy,Jz,JA,JB,JC,JD,JE,JF,JG,JH,JI,JJ,JK,JL,JM,JN,JO,JP,JQ,JR,JS,JT,JU,JV,JW,JX,JY,JZ,J0,J1,J2,J3,J4,J5,J6,J7,J8,J9,Ka,Kb,Kc,Kd,Ke,Kf,Kg,Kh,Ki,Kj,Kk,Kl,Km,Kn,Ko,Kp,Kq,Kr,Ks,Kt,Ku,Kv,Kw,Kx,Ky,Kz,KA,KB,KC,KD,KE,KF,KG,KH,KI,KJ,KK,KL,KM,KN,KO,KP,KQ,KR,KS,KT,KU,KV,KW,KX,KY,KZ,K0,K1,K2,K3,K4,K5,K6,K7,K8,K9,Ga,Gb,Gc,Gd,Ge,Gf,Gg,Gh,Gi,Gj,Gk,Gl,Gm,Gn,Gp,Gq,Gr,Gs,Gt,Gu,Gv,Gw,Gx,Gy,Gz,GA,GB,GC,GD,GE,GF,GG,GH,GI,GJ,GK,GL,GM,GN,GO,GP,GQ,GR,GS,GT,Nat.le_refl,Nat.reduceLeDiff,List.drop_zero,us_take,us_drop,is_take,is_drop,List.take_zero,gn,if_true,if_false,Nat.reduceEqDiff,Int.reduceEq,reduceCtorEq,Nat.succ_ne_self,Nat.reduceAdd,Nat.zero_add,Nat.add_zero,Nat.reduceMul,Nat.mul_one,Nat.one_mul,Nat.zero_mul,Nat.sub_zero,decide_true,decide_false,Bool.and_self,Bool.and_true,Bool.true_and,Bool.false_and,Bool.and_false,Bool.not_true,Bool.not_false,List.length_cons,List.length_nil,us_len,is_len,tb_len,dl_len,us_set,is_set,tb_set,Nat.not_lt_zero,List.nil_append,us_rep,is_rep, k0, c1, d1, l1, l2, l3, l4, e3, widev_noHp]
      · rw [l5] at c1
        have e2 : ((3 : Nat) : Int) = 3 := rfl
        rw [e2] at c1
        simp only [Qa,Qb,Qc,Qd,Qe,Qf,Qg,Qh,Qi,Qj,Qk,Ql,Qm,Qn,Qo,Qp,Qq,Qr,Qs,Qt,Qu,Qv,Qw,Qx,Qy,Qz,QA,QB,QC,QD,QE,QF,QG,QH,QI,QJ,QK,QL,QM,QN,QO,QP,QQ,QR,QS,QT,QU,QV,QW,QX,QY,QZ,Q0,Q1,Q2,Q3,Q4,Q5,Q6,Q7,Q8,Q9,Xa,Xb,Xc,Xd,Xe,Xf,Xg,Xh,Xi,Xj,Xk,Xl,Xm,Xn,Xo,Xp,Xq,Xr,Xs,Xt,Xu,Xv,Xw,Xx,Xy,Xz,XA,XB,XC,XD,XE,XF,XG,XH,XI,XJ,XK,XL,XM,XN,XO,XP,XQ,XR,XS,XT,XU,XV,XW,XX,XY,XZ,X0,X1,X2,X3,X4,X5,X6,X7,X8,X9,Ya,Yb,Yc,Yd,Ye,Yf,Yg,Yh,Yi,Yj,Yk,Yl,Ym,Yn,Yo,Yp,Yq,Yr,Ys,Yt,Yu,Yv,Yw,Yx,Yy,Yz,YA,YB,YC,YD,YE,YF,YG,YH,YI,YJ,YK,YL,YM,YN,YO,YP,YQ,YR,YS,YT,YU,YV,YW,YX,YY,YZ,Y0,Y1,Y2,Y3,Y4,Y5,Y6,Y7,Y8,Y9,Za,Zb,Zc,Zd,Ze,Zf,Zg,Zh,Zi,Zj,Zk,Zl,Zm,Zn,Zo,Zp,Zq,Zr,Zs,Zt,Zu,Zv,Zw,Zx,Zy,Zz,ZA,ZB,ZC,ZD,ZE,ZF,ZG,ZH,ZI,ZJ,ZK,ZL,ZM,ZN,ZO,ZP,ZQ,ZR,ZS,ZT,ZU,ZV,ZW,ZX,ZY,ZZ,Z0,Z1,Z2,Z3,Z4,Z5,Z6,Z7,Z8,Z9,Ja,Jb,Jc,Jd,Je,Jf,Jg,Jh,Ji,Jj,Jk,Jl,Jm,Jn,Jo,Jp,Jq,Jr,Js,Jt,Ju,Jv,Jw,Jx,Jy,Jz,JA,JB,JC,JD,JE,JF,JG,JH,JI,JJ,JK,JL,JM,JN,JO,JP,JQ,JR,JS,JT,JU,JV,JW,JX,JY,JZ,J0,J1,J2,J3,J4,J5,J6,J7,J8,J9,Ka,Kb,Kc,Kd,Ke,Kf,Kg,Kh,Ki,Kj,Kk,Kl,Km,Kn,Ko,Kp,Kq,Kr,Ks,Kt,Ku,Kv,Kw,Kx,Ky,Kz,KA,KB,KC,KD,KE,KF,KG,KH,KI,KJ,KK,KL,KM,KN,KO,KP,KQ,KR,KS,KT,KU,KV,KW,KX,KY,KZ,K0,K1,K2,K3,K4,K5,K6,K7,K8,K9,Ga,Gb,Gc,Gd,Ge,Gf,Gg,Gh,Gi,Gj,Gk,Gl,Gm,Gn,Gp,Gq,Gr,Gs,Gt,Gu,Gv,Gw,Gx,Gy,Gz,GA,GB,GC,GD,GE,GF,GG,GH,GI,GJ,GK,GL,GM,GN,GO,GP,GQ,GR,GS,GT,Nat.le_refl,Nat.reduceLeDiff,List.drop_zero,us_take,us_drop,is_take,is_drop,List.take_zero,gn,if_true,if_false,Nat.reduceEqDiff,Int.reduceEq,reduceCtorEq,Nat.succ_ne_self,Nat.reduceAdd,Nat.zero_add,Nat.add_zero,Nat.reduceMul,Nat.mul_one,Nat.one_mul,Nat.zero_mul,Nat.sub_zero,decide_true,decide_false,Bool.and_self,Bool.and_true,Bool.true_and,Bool.false_and,Bool.and_false,Bool.not_true,Bool.not_false,List.length_cons,List.length_nil,us_len,is_len,tb_len,dl_len,us_set,is_set,tb_set,Nat.not_lt_zero,List.nil_append,us_rep,is_rep, k0, c1, d1, l1, l2, l3, l4, e3, widev_noHp]
    · obtain ⟨d2, d3⟩ := bits v hv
      have g3 := big v
      rcases hc with ⟨g4, hg⟩ | ⟨g4, g5, hg⟩ | ⟨g4, g5, hc⟩
      · rw [decide_eq_true g4] at g2
        rw [hg]
        rcases hat with ⟨l1, l2⟩ | ⟨l1, x, l2, l3, ⟨l4, l5⟩ | ⟨l4, l5⟩⟩
        · rw [l2] at c1
          have e2 : ((2 : Nat) : Int) = 2 := rfl
          rw [e2] at c1
          simp only [Qa,Qb,Qc,Qd,Qe,Qf,Qg,Qh,Qi,Qj,Qk,Ql,Qm,Qn,Qo,Qp,Qq,Qr,Qs,Qt,Qu,Qv,Qw,Qx,Qy,Qz,QA,QB,QC,QD,QE,QF,QG,QH,QI,QJ,QK,QL,QM,QN,QO,QP,QQ,QR,QS,QT,QU,QV,QW,QX,QY,QZ,Q0,Q1,Q2,Q3,Q4,Q5,Q6,Q7,Q8,Q9,Xa,Xb,Xc,Xd,Xe,Xf,Xg,Xh,Xi,Xj,Xk,Xl,Xm,Xn,Xo,Xp,Xq,Xr,Xs,Xt,Xu,Xv,Xw,Xx,Xy,Xz,XA,XB,XC,XD,XE,XF,XG,XH,XI,XJ,XK,XL,XM,XN,XO,XP,XQ,XR,XS,XT,XU,XV,XW,XX,XY,XZ,X0,X1,X2,X3,X4,X5,X6,X7,X8,X9,Ya,Yb,Yc,Yd,Ye,Yf,Yg,Yh,Yi,Yj,Yk,Yl,Ym,Yn,Yo,Yp,Yq,Yr,Ys,Yt,Yu,Yv,Yw,Yx,Yy,Yz,YA,YB,YC,YD,YE,YF,YG,YH,YI,YJ,YK,YL,YM,YN,YO,YP,YQ,YR,YS,YT,YU,YV,YW,YX,YY,YZ,Y0,Y1,Y2,Y3,Y4,Y5,Y6,Y7,Y8,Y9,Za,Zb,Zc,Zd,Ze,Zf,Zg,Zh,Zi,Zj,Zk,Zl,Zm,Zn,Zo,Zp,Zq,Zr,Zs,Zt,Zu,Zv,Zw,Zx,Zy,Zz,ZA,ZB,ZC,ZD,ZE,ZF,ZG,ZH,ZI,ZJ,ZK,ZL,ZM,ZN,ZO,ZP,ZQ,ZR,ZS,ZT,ZU,ZV,ZW,ZX,ZY,ZZ,Z0,Z1,Z2,Z3,Z4,Z5,Z6,Z7,Z8,Z9,Ja,Jb,Jc,Jd,Je,Jf,Jg,Jh,Ji,Jj,Jk,Jl,Jm,Jn,Jo,Jp,Jq,Jr,Js,Jt,Ju,Jv,Jw,Jx,Jy,Jz,JA,JB,JC,JD,JE,JF,JG,JH,JI,JJ,JK,JL,JM,JN,JO,JP,JQ,JR,JS,JT,JU,JV,JW,JX,JY,JZ,J0,J1,J2,J3,J4,J5,J6,J7,J8,J9,Ka,Kb,Kc,Kd,Ke,Kf,Kg,Kh,Ki,Kj,Kk,Kl,Km,Kn,Ko,Kp,Kq,Kr,Ks,Kt,Ku,Kv,Kw,Kx,Ky,Kz,KA,KB,KC,KD,KE,KF,KG,KH,KI,KJ,KK,KL,KM,KN,KO,KP,KQ,KR,KS,KT,KU,KV,KW,KX,KY,KZ,K0,K1,K2,K3,K4,K5,K6,K7,K8,K9,Ga,Gb,Gc,Gd,Ge,Gf,Gg,Gh,Gi,Gj,Gk,Gl,Gm,Gn,Gp,Gq,Gr,Gs,Gt,Gu,Gv,Gw,Gx,Gy,Gz,GA,GB,GC,GD,GE,GF,GG,GH,GI,GJ,GK,GL,GM,GN,GO,GP,GQ,GR,GS,GT,Nat.le_refl,Nat.reduceLeDiff,List.drop_zero,us_take,us_drop,is_take,is_drop,List.take_zero,gn,if_true,if_false,Nat.reduceEqDiff,Int.reduceEq,reduceCtorEq,Nat.succ_ne_self,Nat.reduceAdd,Nat.zero_add,Nat.add_zero,Nat.reduceMul,Nat.mul_one,Nat.one_mul,Nat.zero_mul,Nat.sub_zero,decide_true,decide_false,Bool.and_self,Bool.and_true,Bool.true_and,Bool.false_and,Bool.and_false,Bool.not_true,Bool.not_false,List.length_cons,List.length_nil,us_len,is_len,tb_len,dl_len,us_set,is_set,tb_set,Nat.not_lt_zero,List.nil_append,us_rep,is_rep, k0, c1, c2, d1, g2, l1, e3, widev_noHp, num_noHp]
        · rw [l5] at c1
          have e2 : ((2 : Nat) : Int) = 2 := rfl
          rw [e2] at c1
          simp only [Qa,Qb,Qc,Qd,Qe,Qf,Qg,Qh,Qi,Qj,Qk,Ql,Qm,Qn,Qo,Qp,Qq,Qr,Qs,Qt,Qu,Qv,Qw,Qx,Qy,Qz,QA,QB,QC,QD,QE,QF,QG,QH,QI,QJ,QK,QL,QM,QN,QO,QP,QQ,QR,QS,QT,QU,QV,QW,QX,QY,QZ,Q0,Q1,Q2,Q3,Q4,Q5,Q6,Q7,Q8,Q9,Xa,Xb,Xc,Xd,Xe,Xf,Xg,Xh,Xi,Xj,Xk,Xl,Xm,Xn,Xo,Xp,Xq,Xr,Xs,Xt,Xu,Xv,Xw,Xx,Xy,Xz,XA,XB,XC,XD,XE,XF,XG,XH,XI,XJ,XK,XL,XM,XN,XO,XP,XQ,XR,XS,XT,XU,XV,XW,XX,XY,XZ,X0,X1,X2,X3,X4,X5,X6,X7,X8,X9,Ya,Yb,Yc,Yd,Ye,Yf,Yg,Yh,Yi,Yj,Yk,Yl,Ym,Yn,Yo,Yp,Yq,Yr,Ys,Yt,Yu,Yv,Yw,Yx,Yy,Yz,YA,YB,YC,YD,YE,YF,YG,YH,YI,YJ,YK,YL,YM,YN,YO,YP,YQ,YR,YS,YT,YU,YV,YW,YX,YY,YZ,Y0,Y1,Y2,Y3,Y4,Y5,Y6,Y7,Y8,Y9,Za,Zb,Zc,Zd,Ze,Zf,Zg,Zh,Zi,Zj,Zk,Zl,Zm,Zn,Zo,Zp,Zq,Zr,Zs,Zt,Zu,Zv,Zw,Zx,Zy,Zz,ZA,ZB,ZC,ZD,ZE,ZF,ZG,ZH,ZI,ZJ,ZK,ZL,ZM,ZN,ZO,ZP,ZQ,ZR,ZS,ZT,ZU,ZV,ZW,ZX,ZY,ZZ,Z0,Z1,Z2,Z3,Z4,Z5,Z6,Z7,Z8,Z9,Ja,Jb,Jc,Jd,Je,Jf,Jg,Jh,Ji,Jj,Jk,Jl,Jm,Jn,Jo,Jp,Jq,Jr,Js,Jt,Ju,Jv,Jw,Jx,Jy,Jz,JA,JB,JC,JD,JE,JF,JG,JH,JI,JJ,JK,JL,JM,JN,JO,JP,JQ,JR,JS,JT,JU,JV,JW,JX,JY,JZ,J0,J1,J2,J3,J4,J5,J6,J7,J8,J9,Ka,Kb,Kc,Kd,Ke,Kf,Kg,Kh,Ki,Kj,Kk,Kl,Km,Kn,Ko,Kp,Kq,Kr,Ks,Kt,Ku,Kv,Kw,Kx,Ky,Kz,KA,KB,KC,KD,KE,KF,KG,KH,KI,KJ,KK,KL,KM,KN,KO,KP,KQ,KR,KS,KT,KU,KV,KW,KX,KY,KZ,K0,K1,K2,K3,K4,K5,K6,K7,K8,K9,Ga,Gb,Gc,Gd,Ge,Gf,Gg,Gh,Gi,Gj,Gk,Gl,Gm,Gn,Gp,Gq,Gr,Gs,Gt,Gu,Gv,Gw,Gx,Gy,Gz,GA,GB,GC,GD,GE,GF,GG,GH,GI,GJ,GK,GL,GM,GN,GO,GP,GQ,GR,GS,GT,Nat.le_refl,Nat.reduceLeDiff,List.drop_zero,us_take,us_drop,is_take,is_drop,List.take_zero,gn,if_true,if_false,Nat.reduceEqDiff,Int.reduceEq,reduceCtorEq,Nat.succ_ne_self,Nat.reduceAdd,Nat.zero_add,Nat.add_zero,Nat.reduceMul,Nat.mul_one,Nat.one_mul,Nat.zero_mul,Nat.sub_zero,decide_true,decide_false,Bool.and_self,Bool.and_true,Bool.true_and,Bool.false_and,Bool.and_false,Bool.not_true,Bool.not_false,List.length_cons,List.length_nil,us_len,is_len,tb_len,dl_len,us_set,is_set,tb_set,Nat.not_lt_zero,List.nil_append,us_rep,is_rep, k0, c1, c2, d1, g2, l1, l2, l3, l4, e3, widev_noHp, num_noHp]
        · rw [l5] at c1
          have e2 : ((3 : Nat) : Int) = 3 := rfl
          rw [e2] at c1
          simp only [Qa,Qb,Qc,Qd,Qe,Qf,Qg,Qh,Qi,Qj,Qk,Ql,Qm,Qn,Qo,Qp,Qq,Qr,Qs,Qt,Qu,Qv,Qw,Qx,Qy,Qz,QA,QB,QC,QD,QE,QF,QG,QH,QI,QJ,QK,QL,QM,QN,QO,QP,QQ,QR,QS,QT,QU,QV,QW,QX,QY,QZ,Q0,Q1,Q2,Q3,Q4,Q5,Q6,Q7,Q8,Q9,Xa,Xb,Xc,Xd,Xe,Xf,Xg,Xh,Xi,Xj,Xk,Xl,Xm,Xn,Xo,Xp,Xq,Xr,Xs,Xt,Xu,Xv,Xw,Xx,Xy,Xz,XA,XB,XC,XD,XE,XF,XG,XH,XI,XJ,XK,XL,XM,XN,XO,XP,XQ,XR,XS,XT,XU,XV,XW,XX,XY,XZ,X0,X1,X2,X3,X4,X5,X6,X7,X8,X9,Ya,Yb,Yc,Yd,Ye,Yf,Yg,Yh,Yi,Yj,Yk,Yl,Ym,Yn,Yo,Yp,Yq,Yr,Ys,Yt,Yu,Yv,Yw,Yx,Yy,Yz,YA,YB,YC,YD,YE,YF,YG,YH,YI,YJ,YK,YL,YM,YN,YO,YP,YQ,YR,YS,YT,YU,YV,YW,YX,YY,YZ,Y0,Y1,Y2,Y3,Y4,Y5,Y6,Y7,Y8,Y9,Za,Zb,Zc,Zd,Ze,Zf,Zg,Zh,Zi,Zj,Zk,Zl,Zm,Zn,Zo,Zp,Zq,Zr,Zs,Zt,Zu,Zv,Zw,Zx,Zy,Zz,ZA,ZB,ZC,ZD,ZE,ZF,ZG,ZH,ZI,ZJ,ZK,ZL,ZM,ZN,ZO,ZP,ZQ,ZR,ZS,ZT,ZU,ZV,ZW,ZX,ZY,ZZ,Z0,Z1,Z2,Z3,Z4,Z5,Z6,Z7,Z8,Z9,Ja,Jb,Jc,Jd,Je,Jf,Jg,Jh,Ji,Jj,Jk,Jl,Jm,Jn,Jo,Jp,Jq,Jr,Js,Jt,Ju,Jv,Jw,Jx,Jy,Jz,JA,JB,JC,JD,JE,JF,JG,JH,JI,JJ,JK,JL,JM,JN,JO,JP,JQ,JR,JS,JT,JU,JV,JW,JX,JY,JZ,J0,J1,J2,J3,J4,J5,J6,J7,J8,J9,Ka,Kb,Kc,Kd,Ke,Kf,Kg,Kh,Ki,Kj,Kk,Kl,Km,Kn,Ko,Kp,Kq,Kr,Ks,Kt,Ku,Kv,Kw,Kx,Ky,Kz,KA,KB,KC,KD,KE,KF,KG,KH,KI,KJ,KK,KL,KM,KN,KO,KP,KQ,KR,KS,KT,KU,KV,KW,KX,KY,KZ,K0,K1,K2,K3,K4,K5,K6,K7,K8,K9,Ga,Gb,Gc,Gd,Ge,Gf,Gg,Gh,Gi,Gj,Gk,Gl,Gm,Gn,Gp,Gq,Gr,Gs,Gt,Gu,Gv,Gw,Gx,Gy,Gz,GA,GB,GC,GD,GE,GF,GG,GH,GI,GJ,GK,GL,GM,GN,GO,GP,GQ,GR,GS,GT,Nat.le_refl,Nat.reduceLeDiff,List.drop_zero,us_take,us_drop,is_take,is_drop,List.take_zero,gn,if_true,if_false,Nat.reduceEqDiff,Int.reduceEq,reduceCtorEq,Nat.succ_ne_self,Nat.reduceAdd,Nat.zero_add,Nat.add_zero,Nat.reduceMul,Nat.mul_one,Nat.one_mul,Nat.zero_mul,Nat.sub_zero,decide_true,decide_false,Bool.and_self,Bool.and_true,Bool.true_and,Bool.false_and,Bool.and_false,Bool.not_true,Bool.not_false,List.length_cons,List.length_nil,us_len,is_len,tb_len,dl_len,us_set,is_set,tb_set,Nat.not_lt_zero,List.nil_append,us_rep,is_rep, k0, c1, c2, d1, g2, l1, l2, l3, l4, e3, widev_noHp, num_noHp]
      · rw [decide_eq_false (Nat.not_le.2 g4)] at g2
        rw [decide_eq_true g5] at g3
        rw [hg]
        rcases hat with ⟨l1, l2⟩ | ⟨l1, x, l2, l3, ⟨l4, l5⟩ | ⟨l4, l5⟩⟩
        · rw [l2] at c1
          have e2 : ((2 : Nat) : Int) = 2 := rfl
          rw [e2] at c1
          simp only [Qa,Qb,Qc,Qd,Qe,Qf,Qg,Qh,Qi,Qj,Qk,Ql,Qm,Qn,Qo,Qp,Qq,Qr,Qs,Qt,Qu,Qv,Qw,Qx,Qy,Qz,QA,QB,QC,QD,QE,QF,QG,QH,QI,QJ,QK,QL,QM,QN,QO,QP,QQ,QR,QS,QT,QU,QV,QW,QX,QY,QZ,Q0,Q1,Q2,Q3,Q4,Q5,Q6,Q7,Q8,Q9,Xa,Xb,Xc,Xd,Xe,Xf,Xg,Xh,Xi,Xj,Xk,Xl,Xm,Xn,Xo,Xp,Xq,Xr,Xs,Xt,Xu,Xv,Xw,Xx,Xy,Xz,XA,XB,XC,XD,XE,XF,XG,XH,XI,XJ,XK,XL,XM,XN,XO,XP,XQ,XR,XS,XT,XU,XV,XW,XX,XY,XZ,X0,X1,X2,X3,X4,X5,X6,X7,X8,X9,Ya,Yb,Yc,Yd,Ye,Yf,Yg,Yh,Yi,Yj,Yk,Yl,Ym,Yn,Yo,Yp,Yq,Yr,Ys,Yt,Yu,Yv,Yw,Yx,Yy,Yz,YA,YB,YC,YD,YE,YF,YG,YH,YI,YJ,YK,YL,YM,YN,YO,YP,YQ,YR,YS,YT,YU,YV,YW,YX,YY,YZ,Y0,Y1,Y2,Y3,Y4,Y5,Y6,Y7,Y8,Y9,Za,Zb,Zc,Zd,Ze,Zf,Zg,Zh,Zi,Zj,Zk,Zl,Zm,Zn,Zo,Zp,Zq,Zr,Zs,Zt,Zu,Zv,Zw,Zx,Zy,Zz,ZA,ZB,ZC,ZD,ZE,ZF,ZG,ZH,ZI,ZJ,ZK,ZL,ZM,ZN,ZO,ZP,ZQ,ZR,ZS,ZT,ZU,ZV,ZW,ZX,ZY,ZZ,Z0,Z1,Z2,Z3,Z4,Z5,Z6,Z7,Z8,Z9,Ja,Jb,Jc,Jd,Je,Jf,Jg,Jh,Ji,Jj,Jk,Jl,Jm,Jn,Jo,Jp,Jq,Jr,Js,Jt,Ju,Jv,Jw,Jx,Jy,Jz,JA,JB,JC,JD,JE,JF,JG,JH,JI,JJ,JK,JL,JM,JN,JO,JP,JQ,JR,JS,JT,JU,JV,JW,JX,JY,JZ,J0,J1,J2,J3,J4,J5,J6,J7,J8,J9,Ka,Kb,Kc,Kd,Ke,Kf,Kg,Kh,Ki,Kj,Kk,Kl,Km,Kn,Ko,Kp,Kq,Kr,Ks,Kt,Ku,Kv,Kw,Kx,Ky,Kz,KA,KB,KC,KD,KE,KF,KG,KH,KI,KJ,KK,KL,KM,KN,KO,KP,KQ,KR,KS,KT,KU,KV,KW,KX,KY,KZ,K0,K1,K2,K3,K4,K5,K6,K7,K8,K9,Ga,Gb,Gc,Gd,Ge,Gf,Gg,Gh,Gi,Gj,Gk,Gl,Gm,Gn,Gp,Gq,Gr,Gs,Gt,Gu,Gv,Gw,Gx,Gy,Gz,GA,GB,GC,GD,GE,GF,GG,GH,GI,GJ,GK,GL,GM,GN,GO,GP,GQ,GR,GS,GT,Nat.le_refl,Nat.reduceLeDiff,List.drop_zero,us_take,us_drop,is_take,is_drop,List.take_zero,gn,if_true,if_false,Nat.reduceEqDiff,Int.reduceEq,reduceCtorEq,Nat.succ_ne_self,Nat.reduceAdd,Nat.zero_add,Nat.add_zero,Nat.reduceMul,Nat.mul_one,Nat.one_mul,Nat.zero_mul,Nat.sub_zero,decide_true,decide_false,Bool.and_self,Bool.and_true,Bool.true_and,Bool.false_and,Bool.and_false,Bool.not_true,Bool.not_false,List.length_cons,List.length_nil,us_len,is_len,tb_len,dl_len,us_set,is_set,tb_set,Nat.not_lt_zero,List.nil_append,us_rep,is_rep, k0, c1, c2, d1, d2, g2, g3, l1, e3, widev_noHp, num_noHp]
        · rw [l5] at c1
          have e2 : ((2 : Nat) : Int) = 2 := rfl
          rw [e2] at c1
          simp only [Qa,Qb,Qc,Qd,Qe,Qf,Qg,Qh,Qi,Qj,Qk,Ql,Qm,Qn,Qo,Qp,Qq,Qr,Qs,Qt,Qu,Qv,Qw,Qx,Qy,Qz,QA,QB,QC,QD,QE,QF,QG,QH,QI,QJ,QK,QL,QM,QN,QO,QP,QQ,QR,QS,QT,QU,QV,QW,QX,QY,QZ,Q0,Q1,Q2,Q3,Q4,Q5,Q6,Q7,Q8,Q9,Xa,Xb,Xc,Xd,Xe,Xf,Xg,Xh,Xi,Xj,Xk,Xl,Xm,Xn,Xo,Xp,Xq,Xr,Xs,Xt,Xu,Xv,Xw,Xx,Xy,Xz,XA,XB,XC,XD,XE,XF,XG,XH,XI,XJ,XK,XL,XM,XN,XO,XP,XQ,XR,XS,XT,XU,XV,XW,XX,XY,XZ,X0,X1,X2,X3,X4,X5,X6,X7,X8,X9,Ya,Yb,Yc,Yd,Ye,Yf,Yg,Yh,Yi,Yj,Yk,Yl,Ym,Yn,Yo,Yp,Yq,Yr,Ys,Yt,Yu,Yv,Yw,Yx,Yy,Yz,YA,YB,YC,YD,YE,YF,YG,YH,YI,YJ,YK,YL,YM,YN,YO,YP,YQ,YR,YS,YT,YU,YV,YW,YX,YY,YZ,Y0,Y1,Y2,Y3,Y4,Y5,Y6,Y7,Y8,Y9,Za,Zb,Zc,Zd,Ze,Zf,Zg,Zh,Zi,Zj,Zk,Zl,Zm,Zn,Zo,Zp,Zq,Zr,Zs,Zt,Zu,Zv,Zw,Zx,Zy,Zz,ZA,ZB,ZC,ZD,ZE,ZF,ZG,ZH,ZI,ZJ,ZK,ZL,ZM,ZN,ZO,ZP,ZQ,ZR,ZS,ZT,ZU,ZV,ZW,ZX,ZY,ZZ,Z0,Z1,Z2,Z3,Z4,Z5,Z6,Z7,Z8,Z9,Ja,Jb,Jc,Jd,Je,Jf,Jg,Jh,Ji,Jj,Jk,Jl,Jm,Jn,Jo,Jp,Jq,Jr,Js,Jt,Ju,Jv,Jw,Jx,Jy,Jz,JA,JB,JC,JD,JE,JF,JG,JH,JI,JJ,JK,JL,JM,JN,JO,JP,JQ,JR,JS,JT,JU,JV,JW,JX,JY,JZ,J0,J1,J2,J3,J4,J5,J6,J7,J8,J9,Ka,Kb,Kc,Kd,Ke,Kf,Kg,Kh,Ki,Kj,Kk,Kl,Km,Kn,Ko,Kp,Kq,Kr,Ks,Kt,Ku,Kv,Kw,Kx,Ky,Kz,KA,KB,KC,KD,KE,KF,KG,KH,KI,KJ,KK,KL,KM,KN,KO,KP,KQ,KR,KS,KT,KU,KV,KW,KX,KY,KZ,K0,K1,K2,K3,K4,K5,K6,K7,K8,K9,Ga,Gb,Gc,Gd,Ge,Gf,Gg,Gh,Gi,Gj,Gk,Gl,Gm,Gn,Gp,Gq,Gr,Gs,Gt,Gu,Gv,Gw,Gx,Gy,Gz,GA,GB,GC,GD,GE,GF,GG,GH,GI,GJ,GK,GL,GM,GN,GO,GP,GQ,GR,GS,GT,Nat.le_refl,Nat.reduceLeDiff,List.drop_zero,us_take,us_drop,is_take,is_drop,List.take_zero,gn,if_true,if_false,Nat.reduceEqDiff,Int.reduceEq,reduceCtorEq,Nat.succ_ne_self,Nat.reduceAdd,Nat.zero_add,Nat.add_zero,Nat.reduceMul,Nat.mul_one,Nat.one_mul,Nat.zero_mul,Nat.sub_zero,decide_true,decide_false,Bool.and_self,Bool.and_true,Bool.true_and,Bool.false_and,Bool.and_false,Bool.not_true,Bool.not_false,List.length_cons,List.length_nil,us_len,is_len,tb_len,dl_len,us_set,is_set,tb_set,Nat.not_lt_zero,List.nil_append,us_rep,is_rep, k0, c1, c2, d1, d2, g2, g3, l1, l2, l3, l4, e3, widev_noHp, num_noHp]
        · rw [l5] at c1
          have e2 : ((3 : Nat) : Int) = 3 := rfl
          rw [e2] at c1
          simp only [Qa,Qb,Qc,Qd,Qe,Qf,Qg,Qh,Qi,Qj,Qk,Ql,Qm,Qn,Qo,Qp,Qq,Qr,Qs,Qt,Qu,Qv,Qw,Qx,Qy,Qz,QA,QB,QC,QD,QE,QF,QG,QH,QI,QJ,QK,QL,QM,QN,QO,QP,QQ,QR,QS,QT,QU,QV,QW,QX,QY,QZ,Q0,Q1,Q2,Q3,Q4,Q5,Q6,Q7,Q8,Q9,Xa,Xb,Xc,Xd,Xe,Xf,Xg,Xh,Xi,Xj,Xk,Xl,Xm,Xn,Xo,Xp,Xq,Xr,Xs,Xt,Xu,Xv,Xw,Xx,Xy,Xz,XA,XB,XC,XD,XE,XF,XG,XH,XI,XJ,XK,XL,XM,XN,XO,XP,XQ,XR,XS,XT,XU,XV,XW,XX,XY,XZ,X0,X1,X2,X3,X4,X5,X6,X7,X8,X9,Ya,Yb,Yc,Yd,Ye,Yf,Yg,Yh,Yi,Yj,Yk,Yl,Ym,Yn,Yo,Yp,Yq,Yr,Ys,Yt,Yu,Yv,Yw,Yx,Yy,Yz,YA,YB,YC,YD,YE,YF,YG,YH,YI,YJ,YK,YL,YM,YN,YO,YP,YQ,YR,YS,YT,YU,YV,YW,YX,YY,YZ,Y0,Y1,Y2,Y3,Y4,Y5,Y6,Y7,Y8,Y9,Za,Zb,Zc,Zd,Ze,Zf,Zg,Zh,Zi,Zj,Zk,Zl,Zm,Zn,Zo,Zp,Zq,Zr,Zs,Zt,Zu,Zv,Zw,Zx,Zy,Zz,ZA,ZB,ZC,ZD,ZE,ZF,ZG,ZH,ZI,ZJ,ZK,ZL,ZM,ZN,ZO,ZP,ZQ,ZR,ZS,ZT,ZU,ZV,ZW,ZX,ZY,ZZ,Z0,Z1,Z2,Z3,Z4,Z5,Z6,Z7,Z8,Z9,Ja,Jb,Jc,Jd,Je,Jf,Jg,Jh,Ji,Jj,Jk,Jl,Jm,Jn,Jo,Jp,Jq,Jr,Js,Jt,Ju,Jv,Jw,Jx,Jy,Jz,JA,JB,JC,JD,JE,JF,JG,JH,JI,JJ,JK,JL,JM,JN,JO,JP,JQ,JR,JS,JT,JU,JV,JW,JX,JY,JZ,J0,J1,J2,J3,J4,J5,J6,J7,J8,J9,Ka,Kb,Kc,Kd,Ke,Kf,Kg,Kh,Ki,Kj,Kk,Kl,Km,Kn,Ko,Kp,Kq,Kr,Ks,Kt,Ku,Kv,Kw,Kx,Ky,Kz,KA,KB,KC,KD,KE,KF,KG,KH,KI,KJ,KK,KL,KM,KN,KO,KP,KQ,KR,KS,KT,KU,KV,KW,KX,KY,KZ,K0,K1,K2,K3,K4,K5,K6,K7,K8,K9,Ga,Gb,Gc,Gd,Ge,Gf,Gg,Gh,Gi,Gj,Gk,Gl,Gm,Gn,Gp,Gq,Gr,Gs,Gt,Gu,Gv,Gw,Gx,Gy,Gz,GA,GB,GC,GD,GE,GF,GG,GH,GI,GJ,GK,GL,GM,GN,GO,GP,GQ,GR,GS,GT,Nat.le_refl,Nat.reduceLeDiff,List.drop_zero,us_take,us_drop,is_take,is_drop,List.take_zero,gn,if_true,if_false,Nat.reduceEqDiff,Int.reduceEq,reduceCtorEq,Nat.succ_ne_self,Nat.reduceAdd,Nat.zero_add,Nat.add_zero,Nat.reduceMul,Nat.mul_one,Nat.one_mul,Nat.zero_mul,Nat.sub_zero,decide_true,decide_false,Bool.and_self,Bool.and_true,Bool.true_and,Bool.false_and,Bool.and_false,Bool.not_true,Bool.not_false,List.length_cons,List.length_nil,us_len,is_len,tb_len,dl_len,us_set,is_set,tb_set,Nat.not_lt_zero,List.nil_append,us_rep,is_rep, k0, c1, c2, d1, d2, g2, g3, l1, l2, l3, l4, e3, widev_noHp, num_noHp]
      · rw [decide_eq_false (Nat.not_le.2 g4)] at g2
        rw [decide_eq_false (Nat.not_le.2 g5)] at g3
        have d4 := r_refDer g4 g5
        rcases hc with ⟨g6, hg⟩ | ⟨g6, hg⟩
        · have d5 : binV .neq (.s (pPut r v)) (.s s) = some (.b true) := by rw [Jb, g6]; rfl
          rw [hg]
          rcases hat with ⟨l1, l2⟩ | ⟨l1, x, l2, l3, ⟨l4, l5⟩ | ⟨l4, l5⟩⟩
          · rw [l2] at c1
            have e2 : ((2 : Nat) : Int) = 2 := rfl
            rw [e2] at c1
            simp only [Qa,Qb,Qc,Qd,Qe,Qf,Qg,Qh,Qi,Qj,Qk,Ql,Qm,Qn,Qo,Qp,Qq,Qr,Qs,Qt,Qu,Qv,Qw,Qx,Qy,Qz,QA,QB,QC,QD,QE,QF,QG,QH,QI,QJ,QK,QL,QM,QN,QO,QP,QQ,QR,QS,QT,QU,QV,QW,QX,QY,QZ,Q0,Q1,Q2,Q3,Q4,Q5,Q6,Q7,Q8,Q9,Xa,Xb,Xc,Xd,Xe,Xf,Xg,Xh,Xi,Xj,Xk,Xl,Xm,Xn,Xo,Xp,Xq,Xr,Xs,Xt,Xu,Xv,Xw,Xx,Xy,Xz,XA,XB,XC,XD,XE,XF,XG,XH,XI,XJ,XK,XL,XM,XN,XO,XP,XQ,XR,XS,XT,XU,XV,XW,XX,XY,XZ,X0,X1,X2,X3,X4,X5,X6,X7,X8,X9,Ya,Yb,Yc,Yd,Ye,Yf,Yg,Yh,Yi,Yj,Yk,Yl,Ym,Yn,Yo,Yp,Yq,Yr,Ys,Yt,Yu,Yv,Yw,Yx,Yy,Yz,YA,YB,YC,YD,YE,YF,YG,YH,YI,YJ,YK,YL,YM,YN,YO,YP,YQ,YR,YS,YT,YU,YV,YW,YX,YY,YZ,Y0,Y1,Y2,Y3,Y4,Y5,Y6,Y7,Y8,Y9,Za,Zb,Zc,Zd,Ze,Zf,Zg,Zh,Zi,Zj,Zk,Zl,Zm,Zn,Zo,Zp,Zq,Zr,Zs,Zt,Zu,Zv,Zw,Zx,Zy,Zz,ZA,ZB,ZC,ZD,ZE,ZF,ZG,ZH,ZI,ZJ,ZK,ZL,ZM,ZN,ZO,ZP,ZQ,ZR,ZS,ZT,ZU,ZV,ZW,ZX,ZY,ZZ,Z0,Z1,Z2,Z3,Z4,Z5,Z6,Z7,Z8,Z9,Ja,Jb,Jc,Jd,Je,Jf,Jg,Jh,Ji,Jj,Jk,Jl,Jm,Jn,Jo,Jp,Jq,Jr,Js,Jt,Ju,Jv,Jw,Jx,Jy,Jz,JA,JB,JC,JD,JE,JF,JG,JH,JI,JJ,JK,JL,JM,JN,JO,JP,JQ,JR,JS,JT,JU,JV,JW,JX,JY,JZ,J0,J1,J2,J3,J4,J5,J6,J7,J8,J9,Ka,Kb,Kc,Kd,Ke,Kf,Kg,Kh,Ki,Kj,Kk,Kl,Km,Kn,Ko,Kp,Kq,Kr,Ks,Kt,Ku,Kv,Kw,Kx,Ky,Kz,KA,KB,KC,KD,KE,KF,KG,KH,KI,KJ,KK,KL,KM,KN,KO,KP,KQ,KR,KS,KT,KU,KV,KW,KX,KY,KZ,K0,K1,K2,K3,K4,K5,K6,K7,K8,K9,Ga,Gb,Gc,Gd,Ge,Gf,Gg,Gh,Gi,Gj,Gk,Gl,Gm,Gn,Gp,Gq,Gr,Gs,Gt,Gu,Gv,Gw,Gx,Gy,Gz,GA,GB,GC,GD,GE,GF,GG,GH,GI,GJ,GK,GL,GM,GN,GO,GP,GQ,GR,GS,GT,Nat.le_refl,Nat.reduceLeDiff,List.drop_zero,us_take,us_drop,is_take,is_drop,List.take_zero,gn,if_true,if_false,Nat.reduceEqDiff,Int.reduceEq,reduceCtorEq,Nat.succ_ne_self,Nat.reduceAdd,Nat.zero_add,Nat.add_zero,Nat.reduceMul,Nat.mul_one,Nat.one_mul,Nat.zero_mul,Nat.sub_zero,decide_true,decide_false,Bool.and_self,Bool.and_true,Bool.true_and,Bool.false_and,Bool.and_false,Bool.not_true,Bool.not_false,List.length_cons,List.length_nil,us_len,is_len,tb_len,dl_len,us_set,is_set,tb_set,Nat.not_lt_zero,List.nil_append,us_rep,is_rep, k0, c1, c2, d1, d2, d4, d5, g2, g3, l1, e3, widev_noHp, num_noHp]
          · rw [l5] at c1
            have e2 : ((2 : Nat) : Int) = 2 := rfl
            rw [e2] at c1
            simp only [Qa,Qb,Qc,Qd,Qe,Qf,Qg,Qh,Qi,Qj,Qk,Ql,Qm,Qn,Qo,Qp,Qq,Qr,Qs,Qt,Qu,Qv,Qw,Qx,Qy,Qz,QA,QB,QC,QD,QE,QF,QG,QH,QI,QJ,QK,QL,QM,QN,QO,QP,QQ,QR,QS,QT,QU,QV,QW,QX,QY,QZ,Q0,Q1,Q2,Q3,Q4,Q5,Q6,Q7,Q8,Q9,Xa,Xb,Xc,Xd,Xe,Xf,Xg,Xh,Xi,Xj,Xk,Xl,Xm,Xn,Xo,Xp,Xq,Xr,Xs,Xt,Xu,Xv,Xw,Xx,Xy,Xz,XA,XB,XC,XD,XE,XF,XG,XH,XI,XJ,XK,XL,XM,XN,XO,XP,XQ,XR,XS,XT,XU,XV,XW,XX,XY,XZ,X0,X1,X2,X3,X4,X5,X6,X7,X8,X9,Ya,Yb,Yc,Yd,Ye,Yf,Yg,Yh,Yi,Yj,Yk,Yl,Ym,Yn,Yo,Yp,Yq,Yr,Ys,Yt,Yu,Yv,Yw,Yx,Yy,Yz,YA,YB,YC,YD,YE,YF,YG,YH,YI,YJ,YK,YL,YM,YN,YO,YP,YQ,YR,YS,YT,YU,YV,YW,YX,YY,YZ,Y0,Y1,Y2,Y3,Y4,Y5,Y6,Y7,Y8,Y9,Za,Zb,Zc,Zd,Ze,Zf,Zg,Zh,Zi,Zj,Zk,Zl,Zm,Zn,Zo,Zp,Zq,Zr,Zs,Zt,Zu,Zv,Zw,Zx,Zy,Zz,ZA,ZB,ZC,ZD,ZE,ZF,ZG,ZH,ZI,ZJ,ZK,ZL,ZM,ZN,ZO,ZP,ZQ,ZR,ZS,ZT,ZU,ZV,ZW,ZX,ZY,ZZ,Z0,Z1,Z2,Z3,Z4,Z5,Z6,Z7,Z8,Z9,Ja,Jb,Jc,Jd,Je,Jf,Jg,Jh,Ji,Jj,Jk,Jl,Jm,Jn,Jo,Jp,Jq,Jr,Js,Jt,Ju,Jv,Jw,Jx,Jy,Jz,JA,JB,JC,JD,JE,JF,JG,JH,JI,JJ,JK,JL,JM,JN,JO,JP,JQ,JR,JS,JT,JU,JV,JW,JX,JY,JZ,J0,J1,J2,J3,J4,J5,J6,J7,J8,J9,Ka,Kb,Kc,Kd,Ke,Kf,Kg,Kh,Ki,Kj,Kk,Kl,Km,Kn,Ko,Kp,Kq,Kr,Ks,Kt,Ku,Kv,Kw,Kx,Ky,Kz,KA,KB,KC,KD,KE,KF,KG,KH,KI,KJ,KK,KL,KM,KN,KO,KP,KQ,KR,KS,KT,KU,KV,KW,KX,KY,KZ,K0,K1,K2,K3,K4,K5,K6,K7,K8,K9,Ga,Gb,Gc,Gd,Ge,Gf,Gg,Gh,Gi,Gj,Gk,Gl,Gm,Gn,Gp,Gq,Gr,Gs,Gt,Gu,Gv,Gw,Gx,Gy,Gz,GA,GB,GC,GD,GE,GF,GG,GH,GI,GJ,GK,GL,GM,GN,GO,GP,GQ,GR,GS,GT,Nat.le_refl,Nat.reduceLeDiff,List.drop_zero,us_take,us_drop,is_take,is_drop,List.take_zero,gn,if_true,if_false,Nat.reduceEqDiff,Int.reduceEq,reduceCtorEq,Nat.succ_ne_self,Nat.reduceAdd,Nat.zero_add,Nat.add_zero,Nat.reduceMul,Nat.mul_one,Nat.one_mul,Nat.zero_mul,Nat.sub_zero,decide_true,decide_false,Bool.and_self,Bool.and_true,Bool.true_and,Bool.false_and,Bool.and_false,Bool.not_true,Bool.not_false,List.length_cons,List.length_nil,us_len,is_len,tb_len,dl_len,us_set,is_set,tb_set,Nat.not_lt_zero,List.nil_append,us_rep,is_rep, k0, c1, c2, d1, d2, d4, d5, g2, g3, l1, l2, l3, l4, e3, widev_noHp, num_noHp]
          · rw [l5] at c1
            have e2 : ((3 : Nat) : Int) = 3 := rfl
            rw [e2] at c1
            simp only [Qa,Qb,Qc,Qd,Qe,Qf,Qg,Qh,Qi,Qj,Qk,Ql,Qm,Qn,Qo,Qp,Qq,Qr,Qs,Qt,Qu,Qv,Qw,Qx,Qy,Qz,QA,QB,QC,QD,QE,QF,QG,QH,QI,QJ,QK,QL,QM,QN,QO,QP,QQ,QR,QS,QT,QU,QV,QW,QX,QY,QZ,Q0,Q1,Q2,Q3,Q4,Q5,Q6,Q7,Q8,Q9,Xa,Xb,Xc,Xd,Xe,Xf,Xg,Xh,Xi,Xj,Xk,Xl,Xm,Xn,Xo,Xp,Xq,Xr,Xs,Xt,Xu,Xv,Xw,Xx,Xy,Xz,XA,XB,XC,XD,XE,XF,XG,XH,XI,XJ,XK,XL,XM,XN,XO,XP,XQ,XR,XS,XT,XU,XV,XW,XX,XY,XZ,X0,X1,X2,X3,X4,X5,X6,X7,X8,X9,Ya,Yb,Yc,Yd,Ye,Yf,Yg,Yh,Yi,Yj,Yk,Yl,Ym,Yn,Yo,Yp,Yq,Yr,Ys,Yt,Yu,Yv,Yw,Yx,Yy,Yz,YA,YB,YC,YD,YE,YF,YG,YH,YI,YJ,YK,YL,YM,YN,YO,YP,YQ,YR,YS,YT,YU,YV,YW,YX,YY,YZ,Y0,Y1,Y2,Y3,Y4,Y5,Y6,Y7,Y8,Y9,Za,Zb,Zc,Zd,Ze,Zf,Zg,Zh,Zi,Zj,Zk,Zl,Zm,Zn,Zo,Zp,Zq,Zr,Zs,Zt,Zu,Zv,Zw,Zx,Zy,Zz,ZA,ZB,ZC,ZD,ZE,ZF,ZG,ZH,ZI,ZJ,ZK,ZL,ZM,ZN,ZO,ZP,ZQ,ZR,ZS,ZT,ZU,ZV,ZW,ZX,ZY,ZZ,Z0,Z1,Z2,Z3,Z4,Z5,Z6,Z7,Z8,Z9,Ja,Jb,Jc,Jd,Je,Jf,Jg,Jh,Ji,Jj,Jk,Jl,Jm,Jn,Jo,Jp,Jq,Jr,Js,Jt,Ju,Jv,Jw,Jx,Jy,Jz,JA,JB,JC,JD,JE,JF,JG,JH,JI,JJ,JK,JL,JM,JN,JO,JP,JQ,JR,JS,JT,JU,JV,JW,JX,JY,JZ,J0,J1,J2,J3,J4,J5,J6,J7,J8,J9,Ka,Kb,Kc,Kd,Ke,Kf,Kg,Kh,Ki,Kj,Kk,Kl,Km,Kn,Ko,Kp,Kq,Kr,Ks,Kt,Ku,Kv,Kw,Kx,Ky,Kz,KA,KB,KC,KD,KE,KF,KG,KH,KI,KJ,KK,KL,KM,KN,KO,KP,KQ,KR,KS,KT,KU,KV,KW,KX,KY,KZ,K0,K1,K2,K3,K4,K5,K6,K7,K8,K9,Ga,Gb,Gc,Gd,Ge,Gf,Gg,Gh,Gi,Gj,Gk,Gl,Gm,Gn,Gp,Gq,Gr,Gs,Gt,Gu,Gv,Gw,Gx,Gy,Gz,GA,GB,GC,GD,GE,GF,GG,GH,GI,GJ,GK,GL,GM,GN,GO,GP,GQ,GR,GS,GT,Nat.le_refl,Nat.reduceLeDiff,List.drop_zero,us_take,us_drop,is_take,is_drop,List.take_zero,gn,if_true,if_false,Nat.reduceEqDiff,Int.reduceEq,reduceCtorEq,Nat.succ_ne_self,Nat.reduceAdd,Nat.zero_add,Nat.add_zero,Nat.reduceMul,Nat.mul_one,Nat.one_mul,Nat.zero_mul,Nat.sub_zero,decide_true,decide_false,Bool.and_self,Bool.and_true,Bool.true_and,Bool.false_and,Bool.and_false,Bool.not_true,Bool.not_false,List.length_cons,List.length_nil,us_len,is_len,tb_len,dl_len,us_set,is_set,tb_set,Nat.not_lt_zero,List.nil_append,us_rep,is_rep, k0, c1, c2, d1, d2, d4, d5, g2, g3, l1, l2, l3, l4, e3, widev_noHp, num_noHp]
        · have d5 : binV .neq (.s (pPut r v)) (.s s) = some (.b false) := by rw [Jb, g6]; rfl
          have p1 := sig_put1 g4
          have p2 := sig_put2 (t := v) g4
          have q1 : okc 9 (us 64 (dl 64 9 r)) 0 18 = true := by rw [Ki, dl_len]; rfl
          have q2 : okc 9 (us 64 (dl 64 9 v)) 9 18 = true := by rw [Ki, dl_len]; rfl
          obtain ⟨z, hz⟩ : ∃ z, z = r + M * v := ⟨_, rfl⟩
          rw [← hz] at p2 hg
          rw [hg]
          rcases hat with ⟨l1, l2⟩ | ⟨l1, x, l2, l3, ⟨l4, l5⟩ | ⟨l4, l5⟩⟩
          · rw [l2] at c1
            have e2 : ((2 : Nat) : Int) = 2 := rfl
            rw [e2] at c1
            simp only [Qa,Qb,Qc,Qd,Qe,Qf,Qg,Qh,Qi,Qj,Qk,Ql,Qm,Qn,Qo,Qp,Qq,Qr,Qs,Qt,Qu,Qv,Qw,Qx,Qy,Qz,QA,QB,QC,QD,QE,QF,QG,QH,QI,QJ,QK,QL,QM,QN,QO,QP,QQ,QR,QS,QT,QU,QV,QW,QX,QY,QZ,Q0,Q1,Q2,Q3,Q4,Q5,Q6,Q7,Q8,Q9,Xa,Xb,Xc,Xd,Xe,Xf,Xg,Xh,Xi,Xj,Xk,Xl,Xm,Xn,Xo,Xp,Xq,Xr,Xs,Xt,Xu,Xv,Xw,Xx,Xy,Xz,XA,XB,XC,XD,XE,XF,XG,XH,XI,XJ,XK,XL,XM,XN,XO,XP,XQ,XR,XS,XT,XU,XV,XW,XX,XY,XZ,X0,X1,X2,X3,X4,X5,X6,X7,X8,X9,Ya,Yb,Yc,Yd,Ye,Yf,Yg,Yh,Yi,Yj,Yk,Yl,Ym,Yn,Yo,Yp,Yq,Yr,Ys,Yt,Yu,Yv,Yw,Yx,Yy,Yz,YA,YB,YC,YD,YE,YF,YG,YH,YI,YJ,YK,YL,YM,YN,YO,YP,YQ,YR,YS,YT,YU,YV,YW,YX,YY,YZ,Y0,Y1,Y2,Y3,Y4,Y5,Y6,Y7,Y8,Y9,Za,Zb,Zc,Zd,Ze,Zf,Zg,Zh,Zi,Zj,Zk,Zl,Zm,Zn,Zo,Zp,Zq,Zr,Zs,Zt,Zu,Zv,Zw,Zx,Zy,Zz,ZA,ZB,ZC,ZD,ZE,ZF,ZG,ZH,ZI,ZJ,ZK,ZL,ZM,ZN,ZO,ZP,ZQ,ZR,ZS,ZT,ZU,ZV,ZW,ZX,ZY,ZZ,Z0,Z1,Z2,Z3,Z4,Z5,Z6,Z7,Z8,Z9,Ja,Jb,Jc,Jd,Je,Jf,Jg,Jh,Ji,Jj,Jk,Jl,Jm,Jn,Jo,Jp,Jq,Jr,Js,Jt,Ju,Jv,Jw,Jx,Jy,Jz,JA,JB,JC,JD,JE,JF,JG,JH,JI,JJ,JK,JL,JM,JN,JO,JP,JQ,JR,JS,JT,JU,JV,JW,JX,JY,JZ,J0,J1,J2,J3,J4,J5,J6,J7,J8,J9,Ka,Kb,Kc,Kd,Ke,Kf,Kg,Kh,Ki,Kj,Kk,Kl,Km,Kn,Ko,Kp,Kq,Kr,Ks,Kt,Ku,Kv,Kw,Kx,Ky,Kz,KA,KB,KC,KD,KE,KF,KG,KH,KI,KJ,KK,KL,KM,KN,KO,KP,KQ,KR,KS,KT,KU,KV,KW,KX,KY,KZ,K0,K1,K2,K3,K4,K5,K6,K7,K8,K9,Ga,Gb,Gc,Gd,Ge,Gf,Gg,Gh,Gi,Gj,Gk,Gl,Gm,Gn,Gp,Gq,Gr,Gs,Gt,Gu,Gv,Gw,Gx,Gy,Gz,GA,GB,GC,GD,GE,GF,GG,GH,GI,GJ,GK,GL,GM,GN,GO,GP,GQ,GR,GS,GT,Nat.le_refl,Nat.reduceLeDiff,List.drop_zero,us_take,us_drop,is_take,is_drop,List.take_zero,gn,if_true,if_false,Nat.reduceEqDiff,Int.reduceEq,reduceCtorEq,Nat.succ_ne_self,Nat.reduceAdd,Nat.zero_add,Nat.add_zero,Nat.reduceMul,Nat.mul_one,Nat.one_mul,Nat.zero_mul,Nat.sub_zero,decide_true,decide_false,Bool.and_self,Bool.and_true,Bool.true_and,Bool.false_and,Bool.and_false,Bool.not_true,Bool.not_false,List.length_cons,List.length_nil,us_len,is_len,tb_len,dl_len,us_set,is_set,tb_set,Nat.not_lt_zero,List.nil_append,us_rep,is_rep, k0, c1, c2, c3, d1, d2, d3, d4, d5, g2, g3, l1, e4, p1, p2, q1, q2, widev_noHp, num_noHp]
          · rw [l5] at c1
            have e2 : ((2 : Nat) : Int) = 2 := rfl
            rw [e2] at c1
            simp only [Qa,Qb,Qc,Qd,Qe,Qf,Qg,Qh,Qi,Qj,Qk,Ql,Qm,Qn,Qo,Qp,Qq,Qr,Qs,Qt,Qu,Qv,Qw,Qx,Qy,Qz,QA,QB,QC,QD,QE,QF,QG,QH,QI,QJ,QK,QL,QM,QN,QO,QP,QQ,QR,QS,QT,QU,QV,QW,QX,QY,QZ,Q0,Q1,Q2,Q3,Q4,Q5,Q6,Q7,Q8,Q9,Xa,Xb,Xc,Xd,Xe,Xf,Xg,Xh,Xi,Xj,Xk,Xl,Xm,Xn,Xo,Xp,Xq,Xr,Xs,Xt,Xu,Xv,Xw,Xx,Xy,Xz,XA,XB,XC,XD,XE,XF,XG,XH,XI,XJ,XK,XL,XM,XN,XO,XP,XQ,XR,XS,XT,XU,XV,XW,XX,XY,XZ,X0,X1,X2,X3,X4,X5,X6,X7,X8,X9,Ya,Yb,Yc,Yd,Ye,Yf,Yg,Yh,Yi,Yj,Yk,Yl,Ym,Yn,Yo,Yp,Yq,Yr,Ys,Yt,Yu,Yv,Yw,Yx,Yy,Yz,YA,YB,YC,YD,YE,YF,YG,YH,YI,YJ,YK,YL,YM,YN,YO,YP,YQ,YR,YS,YT,YU,YV,YW,YX,YY,YZ,Y0,Y1,Y2,Y3,Y4,Y5,Y6,Y7,Y8,Y9,Za,Zb,Zc,Zd,Ze,Zf,Zg,Zh,Zi,Zj,Zk,Zl,Zm,Zn,Zo,Zp,Zq,Zr,Zs,Zt,Zu,Zv,Zw,Zx,Zy,Zz,ZA,ZB,ZC,ZD,ZE,ZF,ZG,ZH,ZI,ZJ,ZK,ZL,ZM,ZN,ZO,ZP,ZQ,ZR,ZS,ZT,ZU,ZV,ZW,ZX,ZY,ZZ,Z0,Z1,Z2,Z3,Z4,Z5,Z6,Z7,Z8,Z9,Ja,Jb,Jc,Jd,Je,Jf,Jg,Jh,Ji,Jj,Jk,Jl,Jm,Jn,Jo,Jp,Jq,Jr,Js,Jt,Ju,Jv,Jw,Jx,Jy,Jz,JA,JB,JC,JD,JE,JF,JG,JH,JI,JJ,JK,JL,JM,JN,JO,JP,JQ,JR,JS,JT,JU,JV,JW,JX,JY,JZ,J0,J1,J2,J3,J4,J5,J6,J7,J8,J9,Ka,Kb,Kc,Kd,Ke,Kf,Kg,Kh,Ki,Kj,Kk,Kl,Km,Kn,Ko,Kp,Kq,Kr,Ks,Kt,Ku,Kv,Kw,Kx,Ky,Kz,KA,KB,KC,KD,KE,KF,KG,KH,KI,KJ,KK,KL,KM,KN,KO,KP,KQ,KR,KS,KT,KU,KV,KW,KX,KY,KZ,K0,K1,K2,K3,K4,K5,K6,K7,K8,K9,Ga,Gb,Gc,Gd,Ge,Gf,Gg,Gh,Gi,Gj,Gk,Gl,Gm,Gn,Gp,Gq,Gr,Gs,Gt,Gu,Gv,Gw,Gx,Gy,Gz,GA,GB,GC,GD,GE,GF,GG,GH,GI,GJ,GK,GL,GM,GN,GO,GP,GQ,GR,GS,GT,Nat.le_refl,Nat.reduceLeDiff,List.drop_zero,us_take,us_drop,is_take,is_drop,List.take_zero,gn,if_true,if_false,Nat.reduceEqDiff,Int.reduceEq,reduceCtorEq,Nat.succ_ne_self,Nat.reduceAdd,Nat.zero_add,Nat.add_zero,Nat.reduceMul,Nat.mul_one,Nat.one_mul,Nat.zero_mul,Nat.sub_zero,decide_true,decide_false,Bool.and_self,Bool.and_true,Bool.true_and,Bool.false_and,Bool.and_false,Bool.not_true,Bool.not_false,List.length_cons,List.length_nil,us_len,is_len,tb_len,dl_len,us_set,is_set,tb_set,Nat.not_lt_zero,List.nil_append,us_rep,is_rep, k0, c1, c2, c3, d1, d2, d3, d4, d5, g2, g3, l1, l2, l3, l4, e4, p1, p2, q1, q2, widev_noHp, num_noHp]
          · rw [l5] at c1
            have e2 : ((3 : Nat) : Int) = 3 := rfl
            rw [e2] at c1
            simp only [Qa,Qb,Qc,Qd,Qe,Qf,Qg,Qh,Qi,Qj,Qk,Ql,Qm,Qn,Qo,Qp,Qq,Qr,Qs,Qt,Qu,Qv,Qw,Qx,Qy,Qz,QA,QB,QC,QD,QE,QF,QG,QH,QI,QJ,QK,QL,QM,QN,QO,QP,QQ,QR,QS,QT,QU,QV,QW,QX,QY,QZ,Q0,Q1,Q2,Q3,Q4,Q5,Q6,Q7,Q8,Q9,Xa,Xb,Xc,Xd,Xe,Xf,Xg,Xh,Xi,Xj,Xk,Xl,Xm,Xn,Xo,Xp,Xq,Xr,Xs,Xt,Xu,Xv,Xw,Xx,Xy,Xz,XA,XB,XC,XD,XE,XF,XG,XH,XI,XJ,XK,XL,XM,XN,XO,XP,XQ,XR,XS,XT,XU,XV,XW,XX,XY,XZ,X0,X1,X2,X3,X4,X5,X6,X7,X8,X9,Ya,Yb,Yc,Yd,Ye,Yf,Yg,Yh,Yi,Yj,Yk,Yl,Ym,Yn,Yo,Yp,Yq,Yr,Ys,Yt,Yu,Yv,Yw,Yx,Yy,Yz,YA,YB,YC,YD,YE,YF,YG,YH,YI,YJ,YK,YL,YM,YN,YO,YP,YQ,YR,YS,YT,YU,YV,YW,YX,YY,YZ,Y0,Y1,Y2,Y3,Y4,Y5,Y6,Y7,Y8,Y9,Za,Zb,Zc,Zd,Ze,Zf,Zg,Zh,Zi,Zj,Zk,Zl,Zm,Zn,Zo,Zp,Zq,Zr,Zs,Zt,Zu,Zv,Zw,Zx,Zy,Zz,ZA,ZB,ZC,ZD,ZE,ZF,ZG,ZH,ZI,ZJ,ZK,ZL,ZM,ZN,ZO,ZP,ZQ,ZR,ZS,ZT,ZU,ZV,ZW,ZX,ZY,ZZ,Z0,Z1,Z2,Z3,Z4,Z5,Z6,Z7,Z8,Z9,Ja,Jb,Jc,Jd,Je,Jf,Jg,Jh,Ji,Jj,Jk,Jl,Jm,Jn,Jo,Jp,Jq,Jr,Js,Jt,Ju,Jv,Jw,Jx,Jy,Jz,JA,JB,JC,JD,JE,JF,JG,JH,JI,JJ,JK,JL,JM,JN,JO,JP,JQ,JR,JS,JT,JU,JV,JW,JX,JY,JZ,J0,J1,J2,J3,J4,J5,J6,J7,J8,J9,Ka,Kb,Kc,Kd,Ke,Kf,Kg,Kh,Ki,Kj,Kk,Kl,Km,Kn,Ko,Kp,Kq,Kr,Ks,Kt,Ku,Kv,Kw,Kx,Ky,Kz,KA,KB,KC,KD,KE,KF,KG,KH,KI,KJ,KK,KL,KM,KN,KO,KP,KQ,KR,KS,KT,KU,KV,KW,KX,KY,KZ,K0,K1,K2,K3,K4,K5,K6,K7,K8,K9,Ga,Gb,Gc,Gd,Ge,Gf,Gg,Gh,Gi,Gj,Gk,Gl,Gm,Gn,Gp,Gq,Gr,Gs,Gt,Gu,Gv,Gw,Gx,Gy,Gz,GA,GB,GC,GD,GE,GF,GG,GH,GI,GJ,GK,GL,GM,GN,GO,GP,GQ,GR,GS,GT,Nat.le_refl,Nat.reduceLeDiff,List.drop_zero,us_take,us_drop,is_take,is_drop,List.take_zero,gn,if_true,if_false,Nat.reduceEqDiff,Int.reduceEq,reduceCtorEq,Nat.succ_ne_self,Nat.reduceAdd,Nat.zero_add,Nat.add_zero,Nat.reduceMul,Nat.mul_one,Nat.one_mul,Nat.zero_mul,Nat.sub_zero,decide_true,decide_false,Bool.and_self,Bool.and_true,Bool.true_and,Bool.false_and,Bool.and_false,Bool.not_true,Bool.not_false,List.length_cons,List.length_nil,us_len,is_len,tb_len,dl_len,us_set,is_set,tb_set,Nat.not_lt_zero,List.nil_append,us_rep,is_rep, k0, c1, c2, c3, d1, d2, d3, d4, d5, g2, g3, l1, l2, l3, l4, e4, p1, p2, q1, q2, widev_noHp, num_noHp]

theorem law_Ders {z : Nat} {s : List Nat} (hz : z < M * M) (hs : ∀ x ∈ s, x < 256) (hn : s.length < 9223372036854775808) : Run T f_curvetlaw22_Ders [widev z, .s s] [] = some (.b true, []) := by
  rw [Run_at T _ (show T f_curvetlaw22_Ders = some m_curvetlaw22_Ders from rfl)]
  simp only [c_curvetlaw22_Ders, zero18]
  have c0 := r_awake
  have c1 := r_Get hn hs
  have c2 := r_Undo hn hs
  have c3 := r_Put hz
  obtain ⟨h1, h2, h3⟩ := sig_parts hz
  have p1 := sig_lo z
  have p2 := sig_hi (z := z)
  obtain ⟨r, hr⟩ : ∃ r, r = z % M := ⟨_, rfl⟩
  obtain ⟨t, ht⟩ : ∃ t, t = z / M := ⟨_, rfl⟩
  rw [← hr] at h1 p1 c3
  rw [← ht] at h2 p2 c3
  have c4 := r_From h1
  have c5 := r_From h2
  have c6 := r_refDer h1 h2
  obtain ⟨S, hS⟩ : ∃ S, S = pPut r t := ⟨_, rfl⟩
  rw [← hS] at c3 c6
  obtain ⟨g, hg⟩ : ∃ g, g = (pGet s).1 := ⟨_, rfl⟩
  obtain ⟨e, he⟩ : ∃ e : Int, e = ((pGet s).2 : Int) := ⟨_, rfl⟩
  rw [← hg, ← he] at c1 c2
  have c7 := r_Num e
  have k1 : (S == S) = true := by simp
  have k2 := eqis e
  simp only [Qa,Qb,Qc,Qd,Qe,Qf,Qg,Qh,Qi,Qj,Qk,Ql,Qm,Qn,Qo,Qp,Qq,Qr,Qs,Qt,Qu,Qv,Qw,Qx,Qy,Qz,QA,QB,QC,QD,QE,QF,QG,QH,QI,QJ,QK,QL,QM,QN,QO,QP,QQ,QR,QS,QT,QU,QV,QW,QX,QY,QZ,Q0,Q1,Q2,Q3,Q4,Q5,Q6,Q7,Q8,Q9,Xa,Xb,Xc,Xd,Xe,Xf,Xg,Xh,Xi,Xj,Xk,Xl,Xm,Xn,Xo,Xp,Xq,Xr,Xs,Xt,Xu,Xv,Xw,Xx,Xy,Xz,XA,XB,XC,XD,XE,XF,XG,XH,XI,XJ,XK,XL,XM,XN,XO,XP,XQ,XR,XS,XT,XU,XV,XW,XX,XY,XZ,X0,X1,X2,X3,X4,X5,X6,X7,X8,X9,Ya,Yb,Yc,Yd,Ye,Yf,Yg,Yh,Yi,Yj,Yk,Yl,Ym,Yn,Yo,Yp,Yq,Yr,Ys,Yt,Yu,Yv,Yw,Yx,Yy,Yz,YA,YB,YC,YD,YE,YF,YG,YH,YI,YJ,YK,YL,YM,YN,YO,YP,YQ,YR,YS,YT,YU,YV,YW,YX,YY,YZ,Y0,Y1,Y2,Y3,Y4,Y5,Y6,Y7,Y8,Y9,Za,Zb,Zc,Zd,Ze,Zf,Zg,Zh,Zi,Zj,Zk,Zl,Zm,Zn,Zo,Zp,Zq,Zr,Zs,Zt,Zu,Zv,Zw,Zx,Zy,Zz,ZA,ZB,ZC,ZD,ZE,ZF,ZG,ZH,ZI,ZJ,ZK,ZL,ZM,ZN,ZO,ZP,ZQ,ZR,ZS,ZT,ZU,ZV,ZW,ZX,ZY,ZZ,Z0,Z1,Z2,Z3,Z4,Z5,Z6,Z7,Z8,Z9,Ja,Jb,Jc,Jd,Je,Jf,Jg,Jh,Ji,Jj,Jk,Jl,Jm,Jn,Jo,Jp,Jq,Jr,Js,Jt,Ju,Jv,Jw,Jx,Jy,Jz,JA,JB,JC,JD,JE,JF,JG,JH,JI,JJ,JK,JL,JM,JN,JO,JP,JQ,JR,JS,JT,JU,JV,JW,JX,JY,JZ,J0,J1,J2,J3,J4,J5,J6,J7,J8,J9,Ka,Kb,Kc,Kd,Ke,Kf,Kg,Kh,Ki,Kj,Kk,Kl,Km,Kn,Ko,Kp,Kq,Kr,Ks,Kt,Ku,Kv,Kw,Kx,Ky,Kz,KA,KB,KC,KD,KE,KF,KG,KH,KI,KJ,KK,KL,KM,KN,KO,KP,KQ,KR,KS,KT,KU,KV,KW,KX,KY,KZ,K0,K1,K2,K3,K4,K5,K6,K7,K8,K9,Ga,Gb,Gc,Gd,Ge,Gf,Gg,Gh,Gi,Gj,Gk,Gl,Gm,Gn,Gp,Gq,Gr,Gs,Gt,Gu,Gv,Gw,Gx,Gy,Gz,GA,GB,GC,GD,GE,GF,GG,GH,GI,GJ,GK,GL,GM,GN,GO,GP,GQ,GR,GS,GT,Nat.le_refl,Nat.reduceLeDiff,List.drop_zero,us_take,us_drop,is_take,is_drop,List.take_zero,gn,if_true,if_false,Nat.reduceEqDiff,Int.reduceEq,reduceCtorEq,Nat.succ_ne_self,Nat.reduceAdd,Nat.zero_add,Nat.add_zero,Nat.reduceMul,Nat.mul_one,Nat.one_mul,Nat.zero_mul,Nat.sub_zero,decide_true,decide_false,Bool.and_self,Bool.and_true,Bool.true_and,Bool.false_and,Bool.and_false,Bool.not_true,Bool.not_false,List.length_cons,List.length_nil,us_len,is_len,tb_len,dl_len,us_set,is_set,tb_set,Nat.not_lt_zero,List.nil_append,us_rep,is_rep, c0, c1, c2, c3, c4, c5, c6, c7, p1, p2, k1, k2, Ja, eq18s, natv_noHp, num_noHp, widev_noHp]

end Mir
