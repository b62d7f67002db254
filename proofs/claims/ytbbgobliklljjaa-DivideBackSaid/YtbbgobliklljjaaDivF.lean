/- Package divide: quotient and rest of words. Conditions: none. -/
import Derived.Test.YtbbgobliklljjaaDivE
set_option linter.unusedVariables false
set_option linter.unusedSimpArgs false
set_option exponentiation.threshold 5000
set_option maxRecDepth 20000
namespace Mir

theorem zero19 : [V.u 64 0, .u 64 0, .u 64 0, .u 64 0, .u 64 0, .u 64 0, .u 64 0, .u 64 0, .u 64 0, .u 64 0, .u 64 0, .u 64 0, .u 64 0, .u 64 0, .u 64 0, .u 64 0, .u 64 0, .u 64 0, .u 64 0] = us 64 (tb 19 (fun _ => 0)) := rfl
theorem zero18t : us 64 (dl 64 18 0) = us 64 (tb 18 (fun _ => 0)) := by simp [dl]
theorem zero9t : us 64 (dl 64 9 0) = us 64 (tb 9 (fun _ => 0)) := by simp [dl]

theorem sla19 (X : Nat) : slaO false [some (us 64 (dl 64 19 X))] 19 1 (some (0, 19)) (.hp 0 0) = some (.hs 1 0 0 19 19) := by
  simp [slaO, slaV, row, us_len, dl_len]

theorem r_divide {m n s L W : Nat} (hn1 : 1 ≤ n) (hn : n ≤ 9) (hs : s < 64) (hm : 0 < m) (hD : m * 2 ^ s < 2 ^ (64 * n)) (hD2 : 2 ^ 63 ≤ m * 2 ^ s / 2 ^ (64 * (n - 1))) (hL : L ≤ 18) (hW : W < 2 ^ (64 * L)) :
    Run T f_divide_divisor_divide [dv (m * 2 ^ s) n s, .vs L (us 64 (dl 64 L W))] [] = some (.tup [.agg (us 64 (dl 64 18 (W / m))), natv (W % m)], []) := by
  rw [Run_at T _ (show T f_divide_divisor_divide = some m_divide_divisor_divide from rfl)]
  simp only [c_divide_divisor_divide, zero19]
  simp only [zero18]
  obtain ⟨D, hDe⟩ : ∃ D, D = m * 2 ^ s := ⟨_, rfl⟩
  obtain ⟨N, hN⟩ : ∃ N, N = W * 2 ^ s := ⟨_, rfl⟩
  have hDp : 0 < D := by rw [hDe]; exact Nat.mul_pos hm (Nat.two_pow_pos s)
  have hQ : N / D = W / m := by rw [hN, hDe, Nat.mul_div_mul_right _ _ (Nat.two_pow_pos s)]
  have hR : N % D / 2 ^ s = W % m := by rw [hN, hDe, Nat.mul_mod_mul_right, Nat.mul_div_cancel _ (Nat.two_pow_pos s)]
  rw [← hDe] at hD hD2
  rw [← hDe, ← hQ, ← hR]
  have k1 := dv_n D n s
  have k2 := dv_s D n s
  obtain ⟨cnt, hcnt⟩ : ∃ c, c = L + 1 - n := ⟨_, rfl⟩
  have hcl : cnt + n ≤ 19 ∨ cnt = 0 := by omega
  have htop : N / 2 ^ (64 * cnt) < D := by rw [hN]; exact top_small hW hs hn1 hD2 (by omega)
  obtain ⟨w, hw⟩ : ∃ f : Nat → Nat, ∀ j, f j = W / 2 ^ (64 * j) % 2 ^ 64 := ⟨_, fun _ => rfl⟩
  obtain ⟨e, he⟩ : ∃ f : Nat → Nat, ∀ j, f j = N / 2 ^ (64 * j) % 2 ^ 64 := ⟨_, fun _ => rfl⟩
  obtain ⟨c, hc⟩ : ∃ f : Nat → Nat, ∀ j, f j = if j = 0 then 0 else w (j - 1) / 2 ^ (64 - s) := ⟨_, fun _ => rfl⟩
  have hor : ∀ i, (c i ||| w i * 2 ^ s % 2 ^ 64) = e i := fun i => by
    cases i with
    | zero =>
      rw [hc, if_pos rfl, Nat.zero_or, hw, he, hN]
      exact (shl_first (x := W) (k := s) (q := 0) (r := s) (by omega)).symm
    | succ i =>
      rw [hc, if_neg (by omega), Nat.or_comm, hw, hw, he, hN]
      exact shl_next (x := W) (k := s) (q := 0) (r := s) (by omega) (by omega) i
  have hc0 : s = 0 → ∀ i, c i = 0 := fun h i => by
    rw [hc]
    by_cases h0 : i = 0
    · rw [if_pos h0]
    · rw [if_neg h0, hw, h]; exact Nat.div_eq_of_lt (Nat.mod_lt _ (Nat.two_pow_pos 64))
  have hw0 : ∀ i, L ≤ i → w i = 0 := fun i hi => by rw [hw]; exact word_zero hW hi
  have hend : tb 19 (fun j => if j < L then e j else if j = L then c L else 0) = dl 64 19 N := tb_congr fun j hj => by
    by_cases h1 : j < L
    · rw [if_pos h1, he]
    · rw [if_neg h1, ← he, ← hor j, hw0 j (by omega), Nat.zero_mul, Nat.zero_mod, Nat.or_zero]
      by_cases h2 : j = L
      · rw [if_pos h2, h2]
      · rw [if_neg h2, hc, if_neg (by omega), hw0 _ (by omega), Nat.zero_div]
  have hms : min s 64 = s := Nat.min_eq_left (by omega)
  have hmt : min (64 - s) 64 = 64 - s := Nat.min_eq_left (by omega)
  have kL : decide (L < 9223372036854775808) = true := decide_eq_true (by omega)
  have kW : ∀ i, i < L → part (us 64 (dl 64 L W)) i none = some (.u 64 (w i)) := fun i hi => by rw [hw]; exact dl_partL hi
  obtain ⟨ws, hws⟩ : ∃ l, l = us 64 (dl 64 L W) := ⟨_, rfl⟩
  rw [← hws] at kW ⊢
  obtain ⟨dd, hdd⟩ : ∃ l, l = dvl D n s := ⟨_, rfl⟩
  simp only [dv, ← hdd] at k1 k2 ⊢
  have cS : F (w64 (64 - (s : Int))) ((64 - s : Nat) : Int) := ⟨by unfold w64; omega⟩
  simp only [Qa,Qb,Qc,Qd,Qe,Qf,Qg,Qh,Qi,Qj,Qk,Ql,Qm,Qn,Qo,Qp,Qq,Qr,Qs,Qt,Qu,Qv,Qw,Qx,Qy,Qz,QA,QB,QC,QD,QE,QF,QG,QH,QI,QJ,QK,QL,QM,QN,QO,QP,QQ,QR,QS,QT,QU,QV,QW,QX,QY,QZ,Q0,Q1,Q2,Q3,Q4,Q5,Q6,Q7,Q8,Q9,Xa,Xb,Xc,Xd,Xe,Xf,Xg,Xh,Xi,Xj,Xk,Xl,Xm,Xn,Xo,Xp,Xq,Xr,Xs,Xt,Xu,Xv,Xw,Xx,Xy,Xz,XA,XB,XC,XD,XE,XF,XG,XH,XI,XJ,XK,XL,XM,XN,XO,XP,XQ,XR,XS,XT,XU,XV,XW,XX,XY,XZ,X0,X1,X2,X3,X4,X5,X6,X7,X8,X9,Ya,Yb,Yc,Yd,Ye,Yf,Yg,Yh,Yi,Yj,Yk,Yl,Ym,Yn,Yo,Yp,Yq,Yr,Ys,Yt,Yu,Yv,Yw,Yx,Yy,Yz,YA,YB,YC,YD,YE,YF,YG,YH,YI,YJ,YK,YL,YM,YN,YO,YP,YQ,YR,YS,YT,YU,YV,YW,YX,YY,YZ,Y0,Y1,Y2,Y3,Y4,Y5,Y6,Y7,Y8,Y9,Za,Zb,Zc,Zd,Ze,Zf,Zg,Zh,Zi,Zj,Zk,Zl,Zm,Zn,Zo,Zp,Zq,Zr,Zs,Zt,Zu,Zv,Zw,Zx,Zy,Zz,ZA,ZB,ZC,ZD,ZE,ZF,ZG,ZH,ZI,ZJ,ZK,ZL,ZM,ZN,ZO,ZP,ZQ,ZR,ZS,ZT,ZU,ZV,ZW,ZX,ZY,ZZ,Z0,Z1,Z2,Z3,Z4,Z5,Z6,Z7,Z8,Z9,Ja,Jb,Jc,Jd,Je,Jf,Jg,Jh,Ji,Jj,Jk,Jl,Jm,Jn,Jo,Jp,Jq,Jr,Js,Jt,Ju,Jv,Jw,Jx,Jy,Jz,JA,JB,JC,JD,JE,JF,JG,JH,JI,JJ,JK,JL,JM,JN,JO,JP,JQ,JR,JS,JT,JU,JV,JW,JX,JY,JZ,J0,J1,J2,J3,J4,J5,J6,J7,J8,J9,Ka,Kb,Kc,Kd,Ke,Kf,Kg,Kh,Ki,Kj,Kk,Kl,Km,Kn,Ko,Kp,Kq,Kr,Ks,Kt,Ku,Kv,Kw,Kx,Ky,Kz,KA,KB,KC,KD,KE,KF,KG,KH,KI,KJ,KK,KL,KM,KN,KO,KP,KQ,KR,KS,KT,KU,KV,KW,KX,KY,KZ,K0,K1,K2,K3,K4,K5,K6,K7,K8,K9,Ga,Gb,Gc,Gd,Ge,Gf,Gg,Gh,Gi,Gj,Gk,Gl,Gm,Gn,Gp,Gq,Gr,Gs,Gt,Gu,Gv,Gw,Gx,Gy,Gz,GA,GB,GC,GD,GE,GF,GG,GH,GI,GJ,GK,GL,GM,GN,GO,GP,GQ,GR,GS,GT,Nat.le_refl,Nat.reduceLeDiff,List.drop_zero,us_take,us_drop,is_take,is_drop,List.take_zero,gn,if_true,if_false,Nat.reduceEqDiff,Int.reduceEq,reduceCtorEq,Nat.succ_ne_self,Nat.reduceAdd,Nat.zero_add,Nat.add_zero,Nat.reduceMul,Nat.mul_one,Nat.one_mul,Nat.zero_mul,Nat.sub_zero,decide_true,decide_false,Bool.and_self,Bool.and_true,Bool.true_and,Bool.false_and,Bool.and_false,Bool.not_true,Bool.not_false,List.length_cons,List.length_nil,us_len,is_len,tb_len,dl_len,us_set,is_set,tb_set,Nat.not_lt_zero,List.nil_append,us_rep,is_rep, kL]
  rw [loop_use T (fun i => ⟨[(0, .vr dd 0), (1, .vs L ws), (4, .loc (us 64 (dl 64 18 0))), (5, .loc (us 64 (dl 64 9 0))), (6, .hp 0 0), (7, .loc (us 64 (dl 64 18 0))), (15, .vs L ws), (16, .i (L : Int)), (17, .i (i : Int))], uH (fun j => if j < i then e j else if j = i then c i else 0)⟩) L
    (.exit 0, ⟨[(0, .vr dd 0), (1, .vs L ws), (4, .loc (us 64 (dl 64 18 0))), (5, .loc (us 64 (dl 64 9 0))), (6, .hp 0 0), (7, .loc (us 64 (dl 64 18 0)))], uH (fun j => if j < L then e j else if j = L then c L else 0)⟩) ?h0a (by simp) ?hsa ?hna]
  rotate_left
  · have e1 : tb 19 (fun _ => 0) = tb 19 (fun j => if j < 0 then e j else if j = 0 then c 0 else 0) := tb_congr fun j hj => by
      rw [if_neg (by omega), hc]
      by_cases h : j = 0 <;> simp [h]
    rw [e1]; rfl
  · intro i hi
    have l1 : decide ((i : Int) < (L : Int)) = true := decide_eq_true (by omega)
    have l2 := ixOf_nat (show i < L by omega)
    have l3 := kW i hi
    have l4 := ixOf_nat (show i < 19 by omega)
    have l5 := part_tb (w := 64) (fun j => if j < i then e j else if j = i then c i else 0) i (show i < 19 by omega)
    rw [if_neg (by omega), if_pos rfl] at l5
    obtain ⟨i1, hi1⟩ : ∃ z, z = i + 1 := ⟨_, rfl⟩
    have l6 : F (w64 ((i : Int) + 1)) (i1 : Int) := ⟨by unfold w64; omega⟩
    have l7 := ixOf_nat (show i1 < 19 by omega)
    have l8 : (i + 1 ≤ 19) = True := by simp; omega
    have l9 : (i1 + 1 ≤ 19) = True := by simp; omega
    have l10 := hor i
    by_cases hs0 : s = 0
    · have c4 : decide ((0 : Int) < (s : Int)) = false := decide_eq_false (by omega)
      have fn1 : tb 19 (fun j => if j = i then e i else if j < i then e j else if j = i then c i else 0) = tb 19 (fun j => if j < i + 1 then e j else if j = i + 1 then c (i + 1) else 0) := tb_congr fun j hj => by
        by_cases h1 : j = i
        · rw [if_pos h1, if_pos (by omega), h1]
        · rw [if_neg h1, if_neg h1, hc0 hs0 (i + 1)]
          by_cases h2 : j < i
          · rw [if_pos h2, if_pos (by omega)]
          · rw [if_neg h2, if_neg (by omega)]; simp
      rw [← hi1] at fn1 ⊢
      simp only [uH]
      simp only [Qa,Qb,Qc,Qd,Qe,Qf,Qg,Qh,Qi,Qj,Qk,Ql,Qm,Qn,Qo,Qp,Qq,Qr,Qs,Qt,Qu,Qv,Qw,Qx,Qy,Qz,QA,QB,QC,QD,QE,QF,QG,QH,QI,QJ,QK,QL,QM,QN,QO,QP,QQ,QR,QS,QT,QU,QV,QW,QX,QY,QZ,Q0,Q1,Q2,Q3,Q4,Q5,Q6,Q7,Q8,Q9,Xa,Xb,Xc,Xd,Xe,Xf,Xg,Xh,Xi,Xj,Xk,Xl,Xm,Xn,Xo,Xp,Xq,Xr,Xs,Xt,Xu,Xv,Xw,Xx,Xy,Xz,XA,XB,XC,XD,XE,XF,XG,XH,XI,XJ,XK,XL,XM,XN,XO,XP,XQ,XR,XS,XT,XU,XV,XW,XX,XY,XZ,X0,X1,X2,X3,X4,X5,X6,X7,X8,X9,Ya,Yb,Yc,Yd,Ye,Yf,Yg,Yh,Yi,Yj,Yk,Yl,Ym,Yn,Yo,Yp,Yq,Yr,Ys,Yt,Yu,Yv,Yw,Yx,Yy,Yz,YA,YB,YC,YD,YE,YF,YG,YH,YI,YJ,YK,YL,YM,YN,YO,YP,YQ,YR,YS,YT,YU,YV,YW,YX,YY,YZ,Y0,Y1,Y2,Y3,Y4,Y5,Y6,Y7,Y8,Y9,Za,Zb,Zc,Zd,Ze,Zf,Zg,Zh,Zi,Zj,Zk,Zl,Zm,Zn,Zo,Zp,Zq,Zr,Zs,Zt,Zu,Zv,Zw,Zx,Zy,Zz,ZA,ZB,ZC,ZD,ZE,ZF,ZG,ZH,ZI,ZJ,ZK,ZL,ZM,ZN,ZO,ZP,ZQ,ZR,ZS,ZT,ZU,ZV,ZW,ZX,ZY,ZZ,Z0,Z1,Z2,Z3,Z4,Z5,Z6,Z7,Z8,Z9,Ja,Jb,Jc,Jd,Je,Jf,Jg,Jh,Ji,Jj,Jk,Jl,Jm,Jn,Jo,Jp,Jq,Jr,Js,Jt,Ju,Jv,Jw,Jx,Jy,Jz,JA,JB,JC,JD,JE,JF,JG,JH,JI,JJ,JK,JL,JM,JN,JO,JP,JQ,JR,JS,JT,JU,JV,JW,JX,JY,JZ,J0,J1,J2,J3,J4,J5,J6,J7,J8,J9,Ka,Kb,Kc,Kd,Ke,Kf,Kg,Kh,Ki,Kj,Kk,Kl,Km,Kn,Ko,Kp,Kq,Kr,Ks,Kt,Ku,Kv,Kw,Kx,Ky,Kz,KA,KB,KC,KD,KE,KF,KG,KH,KI,KJ,KK,KL,KM,KN,KO,KP,KQ,KR,KS,KT,KU,KV,KW,KX,KY,KZ,K0,K1,K2,K3,K4,K5,K6,K7,K8,K9,Ga,Gb,Gc,Gd,Ge,Gf,Gg,Gh,Gi,Gj,Gk,Gl,Gm,Gn,Gp,Gq,Gr,Gs,Gt,Gu,Gv,Gw,Gx,Gy,Gz,GA,GB,GC,GD,GE,GF,GG,GH,GI,GJ,GK,GL,GM,GN,GO,GP,GQ,GR,GS,GT,Nat.le_refl,Nat.reduceLeDiff,List.drop_zero,us_take,us_drop,is_take,is_drop,List.take_zero,gn,if_true,if_false,Nat.reduceEqDiff,Int.reduceEq,reduceCtorEq,Nat.succ_ne_self,Nat.reduceAdd,Nat.zero_add,Nat.add_zero,Nat.reduceMul,Nat.mul_one,Nat.one_mul,Nat.zero_mul,Nat.sub_zero,decide_true,decide_false,Bool.and_self,Bool.and_true,Bool.true_and,Bool.false_and,Bool.and_false,Bool.not_true,Bool.not_false,List.length_cons,List.length_nil,us_len,is_len,tb_len,dl_len,us_set,is_set,tb_set,Nat.not_lt_zero,List.nil_append,us_rep,is_rep, k2, l1, l2, l3, l4, l5, l6.eq, l8, l10, c4, hms, fn1]
    · have c4 : decide ((0 : Int) < (s : Int)) = true := decide_eq_true (by omega)
      have hcn : w i / 2 ^ (64 - s) = c i1 := by rw [hi1, hc, if_neg (by omega)]; rfl
      have fn1 : tb 19 (fun j => if j = i + 1 then c (i + 1) else if j = i then e i else if j < i then e j else if j = i then c i else 0) = tb 19 (fun j => if j < i + 1 then e j else if j = i + 1 then c (i + 1) else 0) := tb_congr fun j hj => by
        by_cases h1 : j = i + 1
        · rw [if_pos h1, if_neg (by omega), if_pos h1]
        · rw [if_neg h1]
          by_cases h2 : j = i
          · rw [if_pos h2, if_pos (by omega), h2]
          · rw [if_neg h2, if_neg h2]
            by_cases h3 : j < i
            · rw [if_pos h3, if_pos (by omega)]
            · rw [if_neg h3, if_neg (by omega), if_neg h1]
      rw [← hi1] at fn1 ⊢
      simp only [uH]
      simp only [Qa,Qb,Qc,Qd,Qe,Qf,Qg,Qh,Qi,Qj,Qk,Ql,Qm,Qn,Qo,Qp,Qq,Qr,Qs,Qt,Qu,Qv,Qw,Qx,Qy,Qz,QA,QB,QC,QD,QE,QF,QG,QH,QI,QJ,QK,QL,QM,QN,QO,QP,QQ,QR,QS,QT,QU,QV,QW,QX,QY,QZ,Q0,Q1,Q2,Q3,Q4,Q5,Q6,Q7,Q8,Q9,Xa,Xb,Xc,Xd,Xe,Xf,Xg,Xh,Xi,Xj,Xk,Xl,Xm,Xn,Xo,Xp,Xq,Xr,Xs,Xt,Xu,Xv,Xw,Xx,Xy,Xz,XA,XB,XC,XD,XE,XF,XG,XH,XI,XJ,XK,XL,XM,XN,XO,XP,XQ,XR,XS,XT,XU,XV,XW,XX,XY,XZ,X0,X1,X2,X3,X4,X5,X6,X7,X8,X9,Ya,Yb,Yc,Yd,Ye,Yf,Yg,Yh,Yi,Yj,Yk,Yl,Ym,Yn,Yo,Yp,Yq,Yr,Ys,Yt,Yu,Yv,Yw,Yx,Yy,Yz,YA,YB,YC,YD,YE,YF,YG,YH,YI,YJ,YK,YL,YM,YN,YO,YP,YQ,YR,YS,YT,YU,YV,YW,YX,YY,YZ,Y0,Y1,Y2,Y3,Y4,Y5,Y6,Y7,Y8,Y9,Za,Zb,Zc,Zd,Ze,Zf,Zg,Zh,Zi,Zj,Zk,Zl,Zm,Zn,Zo,Zp,Zq,Zr,Zs,Zt,Zu,Zv,Zw,Zx,Zy,Zz,ZA,ZB,ZC,ZD,ZE,ZF,ZG,ZH,ZI,ZJ,ZK,ZL,ZM,ZN,ZO,ZP,ZQ,ZR,ZS,ZT,ZU,ZV,ZW,ZX,ZY,ZZ,Z0,Z1,Z2,Z3,Z4,Z5,Z6,Z7,Z8,Z9,Ja,Jb,Jc,Jd,Je,Jf,Jg,Jh,Ji,Jj,Jk,Jl,Jm,Jn,Jo,Jp,Jq,Jr,Js,Jt,Ju,Jv,Jw,Jx,Jy,Jz,JA,JB,JC,JD,JE,JF,JG,JH,JI,JJ,JK,JL,JM,JN,JO,JP,JQ,JR,JS,JT,JU,JV,JW,JX,JY,JZ,J0,J1,J2,J3,J4,J5,J6,J7,J8,J9,Ka,Kb,Kc,Kd,Ke,Kf,Kg,Kh,Ki,Kj,Kk,Kl,Km,Kn,Ko,Kp,Kq,Kr,Ks,Kt,Ku,Kv,Kw,Kx,Ky,Kz,KA,KB,KC,KD,KE,KF,KG,KH,KI,KJ,KK,KL,KM,KN,KO,KP,KQ,KR,KS,KT,KU,KV,KW,KX,KY,KZ,K0,K1,K2,K3,K4,K5,K6,K7,K8,K9,Ga,Gb,Gc,Gd,Ge,Gf,Gg,Gh,Gi,Gj,Gk,Gl,Gm,Gn,Gp,Gq,Gr,Gs,Gt,Gu,Gv,Gw,Gx,Gy,Gz,GA,GB,GC,GD,GE,GF,GG,GH,GI,GJ,GK,GL,GM,GN,GO,GP,GQ,GR,GS,GT,Nat.le_refl,Nat.reduceLeDiff,List.drop_zero,us_take,us_drop,is_take,is_drop,List.take_zero,gn,if_true,if_false,Nat.reduceEqDiff,Int.reduceEq,reduceCtorEq,Nat.succ_ne_self,Nat.reduceAdd,Nat.zero_add,Nat.add_zero,Nat.reduceMul,Nat.mul_one,Nat.one_mul,Nat.zero_mul,Nat.sub_zero,decide_true,decide_false,Bool.and_self,Bool.and_true,Bool.true_and,Bool.false_and,Bool.and_false,Bool.not_true,Bool.not_false,List.length_cons,List.length_nil,us_len,is_len,tb_len,dl_len,us_set,is_set,tb_set,Nat.not_lt_zero,List.nil_append,us_rep,is_rep, k2, l1, l2, l3, l4, l5, l6.eq, l7, l8, l9, l10, c4, cS.eq, hms, hmt, hcn, fn1]
  · have l1 : decide ((L : Int) < (L : Int)) = false := by simp
    simp only [uH]
    simp only [Qa,Qb,Qc,Qd,Qe,Qf,Qg,Qh,Qi,Qj,Qk,Ql,Qm,Qn,Qo,Qp,Qq,Qr,Qs,Qt,Qu,Qv,Qw,Qx,Qy,Qz,QA,QB,QC,QD,QE,QF,QG,QH,QI,QJ,QK,QL,QM,QN,QO,QP,QQ,QR,QS,QT,QU,QV,QW,QX,QY,QZ,Q0,Q1,Q2,Q3,Q4,Q5,Q6,Q7,Q8,Q9,Xa,Xb,Xc,Xd,Xe,Xf,Xg,Xh,Xi,Xj,Xk,Xl,Xm,Xn,Xo,Xp,Xq,Xr,Xs,Xt,Xu,Xv,Xw,Xx,Xy,Xz,XA,XB,XC,XD,XE,XF,XG,XH,XI,XJ,XK,XL,XM,XN,XO,XP,XQ,XR,XS,XT,XU,XV,XW,XX,XY,XZ,X0,X1,X2,X3,X4,X5,X6,X7,X8,X9,Ya,Yb,Yc,Yd,Ye,Yf,Yg,Yh,Yi,Yj,Yk,Yl,Ym,Yn,Yo,Yp,Yq,Yr,Ys,Yt,Yu,Yv,Yw,Yx,Yy,Yz,YA,YB,YC,YD,YE,YF,YG,YH,YI,YJ,YK,YL,YM,YN,YO,YP,YQ,YR,YS,YT,YU,YV,YW,YX,YY,YZ,Y0,Y1,Y2,Y3,Y4,Y5,Y6,Y7,Y8,Y9,Za,Zb,Zc,Zd,Ze,Zf,Zg,Zh,Zi,Zj,Zk,Zl,Zm,Zn,Zo,Zp,Zq,Zr,Zs,Zt,Zu,Zv,Zw,Zx,Zy,Zz,ZA,ZB,ZC,ZD,ZE,ZF,ZG,ZH,ZI,ZJ,ZK,ZL,ZM,ZN,ZO,ZP,ZQ,ZR,ZS,ZT,ZU,ZV,ZW,ZX,ZY,ZZ,Z0,Z1,Z2,Z3,Z4,Z5,Z6,Z7,Z8,Z9,Ja,Jb,Jc,Jd,Je,Jf,Jg,Jh,Ji,Jj,Jk,Jl,Jm,Jn,Jo,Jp,Jq,Jr,Js,Jt,Ju,Jv,Jw,Jx,Jy,Jz,JA,JB,JC,JD,JE,JF,JG,JH,JI,JJ,JK,JL,JM,JN,JO,JP,JQ,JR,JS,JT,JU,JV,JW,JX,JY,JZ,J0,J1,J2,J3,J4,J5,J6,J7,J8,J9,Ka,Kb,Kc,Kd,Ke,Kf,Kg,Kh,Ki,Kj,Kk,Kl,Km,Kn,Ko,Kp,Kq,Kr,Ks,Kt,Ku,Kv,Kw,Kx,Ky,Kz,KA,KB,KC,KD,KE,KF,KG,KH,KI,KJ,KK,KL,KM,KN,KO,KP,KQ,KR,KS,KT,KU,KV,KW,KX,KY,KZ,K0,K1,K2,K3,K4,K5,K6,K7,K8,K9,Ga,Gb,Gc,Gd,Ge,Gf,Gg,Gh,Gi,Gj,Gk,Gl,Gm,Gn,Gp,Gq,Gr,Gs,Gt,Gu,Gv,Gw,Gx,Gy,Gz,GA,GB,GC,GD,GE,GF,GG,GH,GI,GJ,GK,GL,GM,GN,GO,GP,GQ,GR,GS,GT,Nat.le_refl,Nat.reduceLeDiff,List.drop_zero,us_take,us_drop,is_take,is_drop,List.take_zero,gn,if_true,if_false,Nat.reduceEqDiff,Int.reduceEq,reduceCtorEq,Nat.succ_ne_self,Nat.reduceAdd,Nat.zero_add,Nat.add_zero,Nat.reduceMul,Nat.mul_one,Nat.one_mul,Nat.zero_mul,Nat.sub_zero,decide_true,decide_false,Bool.and_self,Bool.and_true,Bool.true_and,Bool.false_and,Bool.and_false,Bool.not_true,Bool.not_false,List.length_cons,List.length_nil,us_len,is_len,tb_len,dl_len,us_set,is_set,tb_set,Nat.not_lt_zero,List.nil_append,us_rep,is_rep, l1]
  simp only [uH, hend]
  clear hend hor hc0 hw0 kW hms hmt
  obtain ⟨qd, hqd⟩ : ∃ f : Nat → Nat, ∀ j, f j = N / D / 2 ^ (64 * j) % 2 ^ 64 := ⟨_, fun _ => rfl⟩
  have hqd0 : ∀ j, cnt ≤ j → qd j = 0 := fun j hj => by
    rw [hqd, Nat.div_div_eq_div_mul, Nat.mul_comm D, ← Nat.div_div_eq_div_mul, Nat.div_eq_of_lt, Nat.zero_mod]
    refine Nat.lt_of_le_of_lt ?_ htop
    exact Nat.div_le_div_left (Nat.pow_le_pow_right (by omega) (by omega)) (Nat.two_pow_pos _)
  have hz18 : us 64 (dl 64 18 0) = us 64 (tb 18 (fun j => if cnt - 0 ≤ j then qd j else 0)) := by
    rw [zero18t]
    congr 1
    exact tb_congr fun j hj => by
      by_cases h : cnt - 0 ≤ j
      · rw [if_pos h, hqd0 j h]
      · rw [if_neg h]
  have hst : dl 64 19 N = dl 64 19 (stN N D (cnt - 0)) := by rw [Nat.sub_zero, stN_top htop]
  have cA : F (w64 ((L : Int) - (n : Int))) ((L : Int) - (n : Int)) := ⟨by unfold w64; omega⟩
  simp only [Qa,Qb,Qc,Qd,Qe,Qf,Qg,Qh,Qi,Qj,Qk,Ql,Qm,Qn,Qo,Qp,Qq,Qr,Qs,Qt,Qu,Qv,Qw,Qx,Qy,Qz,QA,QB,QC,QD,QE,QF,QG,QH,QI,QJ,QK,QL,QM,QN,QO,QP,QQ,QR,QS,QT,QU,QV,QW,QX,QY,QZ,Q0,Q1,Q2,Q3,Q4,Q5,Q6,Q7,Q8,Q9,Xa,Xb,Xc,Xd,Xe,Xf,Xg,Xh,Xi,Xj,Xk,Xl,Xm,Xn,Xo,Xp,Xq,Xr,Xs,Xt,Xu,Xv,Xw,Xx,Xy,Xz,XA,XB,XC,XD,XE,XF,XG,XH,XI,XJ,XK,XL,XM,XN,XO,XP,XQ,XR,XS,XT,XU,XV,XW,XX,XY,XZ,X0,X1,X2,X3,X4,X5,X6,X7,X8,X9,Ya,Yb,Yc,Yd,Ye,Yf,Yg,Yh,Yi,Yj,Yk,Yl,Ym,Yn,Yo,Yp,Yq,Yr,Ys,Yt,Yu,Yv,Yw,Yx,Yy,Yz,YA,YB,YC,YD,YE,YF,YG,YH,YI,YJ,YK,YL,YM,YN,YO,YP,YQ,YR,YS,YT,YU,YV,YW,YX,YY,YZ,Y0,Y1,Y2,Y3,Y4,Y5,Y6,Y7,Y8,Y9,Za,Zb,Zc,Zd,Ze,Zf,Zg,Zh,Zi,Zj,Zk,Zl,Zm,Zn,Zo,Zp,Zq,Zr,Zs,Zt,Zu,Zv,Zw,Zx,Zy,Zz,ZA,ZB,ZC,ZD,ZE,ZF,ZG,ZH,ZI,ZJ,ZK,ZL,ZM,ZN,ZO,ZP,ZQ,ZR,ZS,ZT,ZU,ZV,ZW,ZX,ZY,ZZ,Z0,Z1,Z2,Z3,Z4,Z5,Z6,Z7,Z8,Z9,Ja,Jb,Jc,Jd,Je,Jf,Jg,Jh,Ji,Jj,Jk,Jl,Jm,Jn,Jo,Jp,Jq,Jr,Js,Jt,Ju,Jv,Jw,Jx,Jy,Jz,JA,JB,JC,JD,JE,JF,JG,JH,JI,JJ,JK,JL,JM,JN,JO,JP,JQ,JR,JS,JT,JU,JV,JW,JX,JY,JZ,J0,J1,J2,J3,J4,J5,J6,J7,J8,J9,Ka,Kb,Kc,Kd,Ke,Kf,Kg,Kh,Ki,Kj,Kk,Kl,Km,Kn,Ko,Kp,Kq,Kr,Ks,Kt,Ku,Kv,Kw,Kx,Ky,Kz,KA,KB,KC,KD,KE,KF,KG,KH,KI,KJ,KK,KL,KM,KN,KO,KP,KQ,KR,KS,KT,KU,KV,KW,KX,KY,KZ,K0,K1,K2,K3,K4,K5,K6,K7,K8,K9,Ga,Gb,Gc,Gd,Ge,Gf,Gg,Gh,Gi,Gj,Gk,Gl,Gm,Gn,Gp,Gq,Gr,Gs,Gt,Gu,Gv,Gw,Gx,Gy,Gz,GA,GB,GC,GD,GE,GF,GG,GH,GI,GJ,GK,GL,GM,GN,GO,GP,GQ,GR,GS,GT,Nat.le_refl,Nat.reduceLeDiff,List.drop_zero,us_take,us_drop,is_take,is_drop,List.take_zero,gn,if_true,if_false,Nat.reduceEqDiff,Int.reduceEq,reduceCtorEq,Nat.succ_ne_self,Nat.reduceAdd,Nat.zero_add,Nat.add_zero,Nat.reduceMul,Nat.mul_one,Nat.one_mul,Nat.zero_mul,Nat.sub_zero,decide_true,decide_false,Bool.and_self,Bool.and_true,Bool.true_and,Bool.false_and,Bool.and_false,Bool.not_true,Bool.not_false,List.length_cons,List.length_nil,us_len,is_len,tb_len,dl_len,us_set,is_set,tb_set,Nat.not_lt_zero,List.nil_append,us_rep,is_rep, k1, kL, cA.eq]
  rw [loop_use T (fun k => ⟨[(0, .vr dd 0), (4, .loc (us 64 (dl 64 18 0))), (5, .loc (us 64 (dl 64 9 0))), (6, .hp 0 0), (7, .loc (us 64 (tb 18 (fun j => if cnt - k ≤ j then qd j else 0)))), (10, .i ((L : Int) - (n : Int) - (k : Int)))], [some (us 64 (dl 64 19 (stN N D (cnt - k))))]⟩) cnt
    (.exit 2, ⟨[(0, .vr dd 0), (4, .loc (us 64 (dl 64 18 0))), (5, .loc (us 64 (dl 64 9 0))), (6, .hp 0 0), (7, .loc (us 64 (dl 64 18 (N / D))))], [some (us 64 (dl 64 19 (N % D)))]⟩) ?h0b (by simp) ?hsb ?hnb]
  rotate_left
  · rw [hst]
    have e1 : (L : Int) - (n : Int) - ((0 : Nat) : Int) = (L : Int) - (n : Int) := by omega
    rw [e1, ← hz18]
  · intro k hk
    obtain ⟨a, ha⟩ : ∃ z, z = L - n - k := ⟨_, rfl⟩
    have e1 : (L : Int) - (n : Int) - (k : Int) = (a : Int) := by omega
    have e2 : (L : Int) - (n : Int) - ((k + 1 : Nat) : Int) = (a : Int) - 1 := by omega
    have e3 : cnt - k = a + 1 := by omega
    have e4 : cnt - (k + 1) = a := by omega
    rw [e1, e2, e3, e4, stN_win, stN_next]
    have hlo : N % 2 ^ (64 * a) < 2 ^ (64 * a) := Nat.mod_lt _ (Nat.two_pow_pos _)
    have hWD : wvN N D a < D * 2 ^ 64 := wv_lt hDp
    have hqa : qd a = wvN N D a / D := by rw [hqd, wv_div hDp]
    obtain ⟨lo, hlo'⟩ : ∃ z, z = N % 2 ^ (64 * a) := ⟨_, rfl⟩
    obtain ⟨Wv, hWv⟩ : ∃ z, z = wvN N D a := ⟨_, rfl⟩
    rw [← hlo'] at hlo ⊢
    rw [← hWv] at hWD hqa ⊢
    have hBP : D * 2 ^ 64 ≤ 2 ^ (64 * (n + 1)) := by
      rw [show 64 * (n + 1) = 64 * n + 64 by omega, Nat.pow_add]
      exact Nat.mul_le_mul_right _ (Nat.le_of_lt hD)
    obtain ⟨x, hx1, hx2, hx3⟩ := r_guess (s := s) hn1 hn hD hD2 hlo hWD (by omega)
    rw [← hqa] at hx2
    have hxP : x * D ≤ 2 ^ (64 * (n + 1)) := by
      refine Nat.le_trans ?_ hBP
      rw [Nat.mul_comm]; exact Nat.mul_le_mul_left _ (Nat.le_of_lt hx1)
    have hWP : Wv < 2 ^ (64 * (n + 1)) := Nat.lt_of_lt_of_le hWD hBP
    have tk := r_divTake (s := s) (Wv := Wv) (lo := lo) (a := a) (q := x) hn hD hlo hWP (by omega) hx1
    obtain ⟨cc, hcc⟩ : ∃ z, z = x - qd a := ⟨_, rfl⟩
    obtain ⟨t1, t2⟩ := take_first hqa hDp hcc hx2 hxP hWP
    rw [t1, t2] at tk
    obtain ⟨Wi, hWi⟩ : ∃ f : Nat → Nat, ∀ i, f i = if i < cc then 2 ^ (64 * (n + 1)) + Wv - (x - i) * D else Wv % D := ⟨_, fun _ => rfl⟩
    rw [← hWi 0] at tk
    have bk' : ∀ i, i < cc → Run T f_divide_divisor_back [.vr dd 0, .hs 1 0 0 19 19, .i (a : Int)] [some (us 64 (dl 64 19 (lo + 2 ^ (64 * a) * Wi i)))] =
        some (.b (!decide (i + 1 < cc)), [some (us 64 (dl 64 19 (lo + 2 ^ (64 * a) * Wi (i + 1))))]) := fun i hi => by
      obtain ⟨b1, b2, b3⟩ := back_step hqa hDp hcc hx2 hxP hi
      have h := r_divBack (s := s) (Wv := Wi i) (lo := lo) (a := a) hn hD hlo (by rw [hWi, if_pos hi]; exact b3) (by omega)
      rw [hWi i, if_pos hi, b1, b2, ← hWi (i + 1)] at h
      rw [hWi i, if_pos hi, hdd]
      exact h
    have hWe : Wi cc = Wv % D := by rw [hWi, if_neg (by omega)]
    simp only [dv, ← hdd] at hx3 tk
    have l1 : decide ((0 : Int) ≤ (a : Int)) = true := decide_eq_true (by omega)
    have l2 : F (w64 ((a : Int) - 1)) ((a : Int) - 1) := ⟨by unfold w64; omega⟩
    have l3 := ixOf_nat (show a < 18 by omega)
    have l4 : (a + 1 ≤ 18) = True := by simp; omega
    have fn1 : tb 18 (fun j => if j = a then qd a else if a + 1 ≤ j then qd j else 0) = tb 18 (fun j => if a ≤ j then qd j else 0) := tb_congr fun j hj => by
      by_cases h1 : j = a
      · rw [if_pos h1, if_pos (by omega), h1]
      · rw [if_neg h1]
        by_cases h2 : a + 1 ≤ j
        · rw [if_pos h2, if_pos (by omega)]
        · rw [if_neg h2, if_neg (by omega)]
    simp only [Qa,Qb,Qc,Qd,Qe,Qf,Qg,Qh,Qi,Qj,Qk,Ql,Qm,Qn,Qo,Qp,Qq,Qr,Qs,Qt,Qu,Qv,Qw,Qx,Qy,Qz,QA,QB,QC,QD,QE,QF,QG,QH,QI,QJ,QK,QL,QM,QN,QO,QP,QQ,QR,QS,QT,QU,QV,QW,QX,QY,QZ,Q0,Q1,Q2,Q3,Q4,Q5,Q6,Q7,Q8,Q9,Xa,Xb,Xc,Xd,Xe,Xf,Xg,Xh,Xi,Xj,Xk,Xl,Xm,Xn,Xo,Xp,Xq,Xr,Xs,Xt,Xu,Xv,Xw,Xx,Xy,Xz,XA,XB,XC,XD,XE,XF,XG,XH,XI,XJ,XK,XL,XM,XN,XO,XP,XQ,XR,XS,XT,XU,XV,XW,XX,XY,XZ,X0,X1,X2,X3,X4,X5,X6,X7,X8,X9,Ya,Yb,Yc,Yd,Ye,Yf,Yg,Yh,Yi,Yj,Yk,Yl,Ym,Yn,Yo,Yp,Yq,Yr,Ys,Yt,Yu,Yv,Yw,Yx,Yy,Yz,YA,YB,YC,YD,YE,YF,YG,YH,YI,YJ,YK,YL,YM,YN,YO,YP,YQ,YR,YS,YT,YU,YV,YW,YX,YY,YZ,Y0,Y1,Y2,Y3,Y4,Y5,Y6,Y7,Y8,Y9,Za,Zb,Zc,Zd,Ze,Zf,Zg,Zh,Zi,Zj,Zk,Zl,Zm,Zn,Zo,Zp,Zq,Zr,Zs,Zt,Zu,Zv,Zw,Zx,Zy,Zz,ZA,ZB,ZC,ZD,ZE,ZF,ZG,ZH,ZI,ZJ,ZK,ZL,ZM,ZN,ZO,ZP,ZQ,ZR,ZS,ZT,ZU,ZV,ZW,ZX,ZY,ZZ,Z0,Z1,Z2,Z3,Z4,Z5,Z6,Z7,Z8,Z9,Ja,Jb,Jc,Jd,Je,Jf,Jg,Jh,Ji,Jj,Jk,Jl,Jm,Jn,Jo,Jp,Jq,Jr,Js,Jt,Ju,Jv,Jw,Jx,Jy,Jz,JA,JB,JC,JD,JE,JF,JG,JH,JI,JJ,JK,JL,JM,JN,JO,JP,JQ,JR,JS,JT,JU,JV,JW,JX,JY,JZ,J0,J1,J2,J3,J4,J5,J6,J7,J8,J9,Ka,Kb,Kc,Kd,Ke,Kf,Kg,Kh,Ki,Kj,Kk,Kl,Km,Kn,Ko,Kp,Kq,Kr,Ks,Kt,Ku,Kv,Kw,Kx,Ky,Kz,KA,KB,KC,KD,KE,KF,KG,KH,KI,KJ,KK,KL,KM,KN,KO,KP,KQ,KR,KS,KT,KU,KV,KW,KX,KY,KZ,K0,K1,K2,K3,K4,K5,K6,K7,K8,K9,Ga,Gb,Gc,Gd,Ge,Gf,Gg,Gh,Gi,Gj,Gk,Gl,Gm,Gn,Gp,Gq,Gr,Gs,Gt,Gu,Gv,Gw,Gx,Gy,Gz,GA,GB,GC,GD,GE,GF,GG,GH,GI,GJ,GK,GL,GM,GN,GO,GP,GQ,GR,GS,GT,Nat.le_refl,Nat.reduceLeDiff,List.drop_zero,us_take,us_drop,is_take,is_drop,List.take_zero,gn,if_true,if_false,Nat.reduceEqDiff,Int.reduceEq,reduceCtorEq,Nat.succ_ne_self,Nat.reduceAdd,Nat.zero_add,Nat.add_zero,Nat.reduceMul,Nat.mul_one,Nat.one_mul,Nat.zero_mul,Nat.sub_zero,decide_true,decide_false,Bool.and_self,Bool.and_true,Bool.true_and,Bool.false_and,Bool.and_false,Bool.not_true,Bool.not_false,List.length_cons,List.length_nil,us_len,is_len,tb_len,dl_len,us_set,is_set,tb_set,Nat.not_lt_zero,List.nil_append,us_rep,is_rep, l1, sla19, hx3, tk]
    rw [loop_use T (fun i => ⟨[(0, .vr dd 0), (4, .loc (us 64 (dl 64 18 0))), (5, .loc (us 64 (dl 64 9 0))), (6, .hp 0 0), (7, .loc (us 64 (tb 18 (fun j => if a + 1 ≤ j then qd j else 0)))), (10, .i (a : Int)), (11, .u 64 (x - i)), (12, .b (decide (i < cc)))], [some (us 64 (dl 64 19 (lo + 2 ^ (64 * a) * Wi i)))]⟩) cc
      (.exit 4, ⟨[(0, .vr dd 0), (4, .loc (us 64 (dl 64 18 0))), (5, .loc (us 64 (dl 64 9 0))), (6, .hp 0 0), (7, .loc (us 64 (tb 18 (fun j => if a + 1 ≤ j then qd j else 0)))), (10, .i (a : Int)), (11, .u 64 (qd a))], [some (us 64 (dl 64 19 (lo + 2 ^ (64 * a) * (Wv % D))))]⟩) ?h0c (by simp) ?hsc ?hnc]
    rotate_left
    · rfl
    · intro i hi
      have m1 : decide (i < cc) = true := decide_eq_true hi
      have m2 := bk' i hi
      have m3 : (x - i + 2 ^ 64 - 1) % 2 ^ 64 = x - (i + 1) := dec_lem64 (by omega) hx1
      rw [m1]
      simp only [Qa,Qb,Qc,Qd,Qe,Qf,Qg,Qh,Qi,Qj,Qk,Ql,Qm,Qn,Qo,Qp,Qq,Qr,Qs,Qt,Qu,Qv,Qw,Qx,Qy,Qz,QA,QB,QC,QD,QE,QF,QG,QH,QI,QJ,QK,QL,QM,QN,QO,QP,QQ,QR,QS,QT,QU,QV,QW,QX,QY,QZ,Q0,Q1,Q2,Q3,Q4,Q5,Q6,Q7,Q8,Q9,Xa,Xb,Xc,Xd,Xe,Xf,Xg,Xh,Xi,Xj,Xk,Xl,Xm,Xn,Xo,Xp,Xq,Xr,Xs,Xt,Xu,Xv,Xw,Xx,Xy,Xz,XA,XB,XC,XD,XE,XF,XG,XH,XI,XJ,XK,XL,XM,XN,XO,XP,XQ,XR,XS,XT,XU,XV,XW,XX,XY,XZ,X0,X1,X2,X3,X4,X5,X6,X7,X8,X9,Ya,Yb,Yc,Yd,Ye,Yf,Yg,Yh,Yi,Yj,Yk,Yl,Ym,Yn,Yo,Yp,Yq,Yr,Ys,Yt,Yu,Yv,Yw,Yx,Yy,Yz,YA,YB,YC,YD,YE,YF,YG,YH,YI,YJ,YK,YL,YM,YN,YO,YP,YQ,YR,YS,YT,YU,YV,YW,YX,YY,YZ,Y0,Y1,Y2,Y3,Y4,Y5,Y6,Y7,Y8,Y9,Za,Zb,Zc,Zd,Ze,Zf,Zg,Zh,Zi,Zj,Zk,Zl,Zm,Zn,Zo,Zp,Zq,Zr,Zs,Zt,Zu,Zv,Zw,Zx,Zy,Zz,ZA,ZB,ZC,ZD,ZE,ZF,ZG,ZH,ZI,ZJ,ZK,ZL,ZM,ZN,ZO,ZP,ZQ,ZR,ZS,ZT,ZU,ZV,ZW,ZX,ZY,ZZ,Z0,Z1,Z2,Z3,Z4,Z5,Z6,Z7,Z8,Z9,Ja,Jb,Jc,Jd,Je,Jf,Jg,Jh,Ji,Jj,Jk,Jl,Jm,Jn,Jo,Jp,Jq,Jr,Js,Jt,Ju,Jv,Jw,Jx,Jy,Jz,JA,JB,JC,JD,JE,JF,JG,JH,JI,JJ,JK,JL,JM,JN,JO,JP,JQ,JR,JS,JT,JU,JV,JW,JX,JY,JZ,J0,J1,J2,J3,J4,J5,J6,J7,J8,J9,Ka,Kb,Kc,Kd,Ke,Kf,Kg,Kh,Ki,Kj,Kk,Kl,Km,Kn,Ko,Kp,Kq,Kr,Ks,Kt,Ku,Kv,Kw,Kx,Ky,Kz,KA,KB,KC,KD,KE,KF,KG,KH,KI,KJ,KK,KL,KM,KN,KO,KP,KQ,KR,KS,KT,KU,KV,KW,KX,KY,KZ,K0,K1,K2,K3,K4,K5,K6,K7,K8,K9,Ga,Gb,Gc,Gd,Ge,Gf,Gg,Gh,Gi,Gj,Gk,Gl,Gm,Gn,Gp,Gq,Gr,Gs,Gt,Gu,Gv,Gw,Gx,Gy,Gz,GA,GB,GC,GD,GE,GF,GG,GH,GI,GJ,GK,GL,GM,GN,GO,GP,GQ,GR,GS,GT,Nat.le_refl,Nat.reduceLeDiff,List.drop_zero,us_take,us_drop,is_take,is_drop,List.take_zero,gn,if_true,if_false,Nat.reduceEqDiff,Int.reduceEq,reduceCtorEq,Nat.succ_ne_self,Nat.reduceAdd,Nat.zero_add,Nat.add_zero,Nat.reduceMul,Nat.mul_one,Nat.one_mul,Nat.zero_mul,Nat.sub_zero,decide_true,decide_false,Bool.and_self,Bool.and_true,Bool.true_and,Bool.false_and,Bool.and_false,Bool.not_true,Bool.not_false,List.length_cons,List.length_nil,us_len,is_len,tb_len,dl_len,us_set,is_set,tb_set,Nat.not_lt_zero,List.nil_append,us_rep,is_rep, sla19, m2, m3, Bool.not_not]
    · have m1 : decide (cc < cc) = false := by simp
      have m2 : x - cc = qd a := by omega
      rw [m1, m2, hWe]
      simp only [Qa,Qb,Qc,Qd,Qe,Qf,Qg,Qh,Qi,Qj,Qk,Ql,Qm,Qn,Qo,Qp,Qq,Qr,Qs,Qt,Qu,Qv,Qw,Qx,Qy,Qz,QA,QB,QC,QD,QE,QF,QG,QH,QI,QJ,QK,QL,QM,QN,QO,QP,QQ,QR,QS,QT,QU,QV,QW,QX,QY,QZ,Q0,Q1,Q2,Q3,Q4,Q5,Q6,Q7,Q8,Q9,Xa,Xb,Xc,Xd,Xe,Xf,Xg,Xh,Xi,Xj,Xk,Xl,Xm,Xn,Xo,Xp,Xq,Xr,Xs,Xt,Xu,Xv,Xw,Xx,Xy,Xz,XA,XB,XC,XD,XE,XF,XG,XH,XI,XJ,XK,XL,XM,XN,XO,XP,XQ,XR,XS,XT,XU,XV,XW,XX,XY,XZ,X0,X1,X2,X3,X4,X5,X6,X7,X8,X9,Ya,Yb,Yc,Yd,Ye,Yf,Yg,Yh,Yi,Yj,Yk,Yl,Ym,Yn,Yo,Yp,Yq,Yr,Ys,Yt,Yu,Yv,Yw,Yx,Yy,Yz,YA,YB,YC,YD,YE,YF,YG,YH,YI,YJ,YK,YL,YM,YN,YO,YP,YQ,YR,YS,YT,YU,YV,YW,YX,YY,YZ,Y0,Y1,Y2,Y3,Y4,Y5,Y6,Y7,Y8,Y9,Za,Zb,Zc,Zd,Ze,Zf,Zg,Zh,Zi,Zj,Zk,Zl,Zm,Zn,Zo,Zp,Zq,Zr,Zs,Zt,Zu,Zv,Zw,Zx,Zy,Zz,ZA,ZB,ZC,ZD,ZE,ZF,ZG,ZH,ZI,ZJ,ZK,ZL,ZM,ZN,ZO,ZP,ZQ,ZR,ZS,ZT,ZU,ZV,ZW,ZX,ZY,ZZ,Z0,Z1,Z2,Z3,Z4,Z5,Z6,Z7,Z8,Z9,Ja,Jb,Jc,Jd,Je,Jf,Jg,Jh,Ji,Jj,Jk,Jl,Jm,Jn,Jo,Jp,Jq,Jr,Js,Jt,Ju,Jv,Jw,Jx,Jy,Jz,JA,JB,JC,JD,JE,JF,JG,JH,JI,JJ,JK,JL,JM,JN,JO,JP,JQ,JR,JS,JT,JU,JV,JW,JX,JY,JZ,J0,J1,J2,J3,J4,J5,J6,J7,J8,J9,Ka,Kb,Kc,Kd,Ke,Kf,Kg,Kh,Ki,Kj,Kk,Kl,Km,Kn,Ko,Kp,Kq,Kr,Ks,Kt,Ku,Kv,Kw,Kx,Ky,Kz,KA,KB,KC,KD,KE,KF,KG,KH,KI,KJ,KK,KL,KM,KN,KO,KP,KQ,KR,KS,KT,KU,KV,KW,KX,KY,KZ,K0,K1,K2,K3,K4,K5,K6,K7,K8,K9,Ga,Gb,Gc,Gd,Ge,Gf,Gg,Gh,Gi,Gj,Gk,Gl,Gm,Gn,Gp,Gq,Gr,Gs,Gt,Gu,Gv,Gw,Gx,Gy,Gz,GA,GB,GC,GD,GE,GF,GG,GH,GI,GJ,GK,GL,GM,GN,GO,GP,GQ,GR,GS,GT,Nat.le_refl,Nat.reduceLeDiff,List.drop_zero,us_take,us_drop,is_take,is_drop,List.take_zero,gn,if_true,if_false,Nat.reduceEqDiff,Int.reduceEq,reduceCtorEq,Nat.succ_ne_self,Nat.reduceAdd,Nat.zero_add,Nat.add_zero,Nat.reduceMul,Nat.mul_one,Nat.one_mul,Nat.zero_mul,Nat.sub_zero,decide_true,decide_false,Bool.and_self,Bool.and_true,Bool.true_and,Bool.false_and,Bool.and_false,Bool.not_true,Bool.not_false,List.length_cons,List.length_nil,us_len,is_len,tb_len,dl_len,us_set,is_set,tb_set,Nat.not_lt_zero,List.nil_append,us_rep,is_rep]
    simp only [Qa,Qb,Qc,Qd,Qe,Qf,Qg,Qh,Qi,Qj,Qk,Ql,Qm,Qn,Qo,Qp,Qq,Qr,Qs,Qt,Qu,Qv,Qw,Qx,Qy,Qz,QA,QB,QC,QD,QE,QF,QG,QH,QI,QJ,QK,QL,QM,QN,QO,QP,QQ,QR,QS,QT,QU,QV,QW,QX,QY,QZ,Q0,Q1,Q2,Q3,Q4,Q5,Q6,Q7,Q8,Q9,Xa,Xb,Xc,Xd,Xe,Xf,Xg,Xh,Xi,Xj,Xk,Xl,Xm,Xn,Xo,Xp,Xq,Xr,Xs,Xt,Xu,Xv,Xw,Xx,Xy,Xz,XA,XB,XC,XD,XE,XF,XG,XH,XI,XJ,XK,XL,XM,XN,XO,XP,XQ,XR,XS,XT,XU,XV,XW,XX,XY,XZ,X0,X1,X2,X3,X4,X5,X6,X7,X8,X9,Ya,Yb,Yc,Yd,Ye,Yf,Yg,Yh,Yi,Yj,Yk,Yl,Ym,Yn,Yo,Yp,Yq,Yr,Ys,Yt,Yu,Yv,Yw,Yx,Yy,Yz,YA,YB,YC,YD,YE,YF,YG,YH,YI,YJ,YK,YL,YM,YN,YO,YP,YQ,YR,YS,YT,YU,YV,YW,YX,YY,YZ,Y0,Y1,Y2,Y3,Y4,Y5,Y6,Y7,Y8,Y9,Za,Zb,Zc,Zd,Ze,Zf,Zg,Zh,Zi,Zj,Zk,Zl,Zm,Zn,Zo,Zp,Zq,Zr,Zs,Zt,Zu,Zv,Zw,Zx,Zy,Zz,ZA,ZB,ZC,ZD,ZE,ZF,ZG,ZH,ZI,ZJ,ZK,ZL,ZM,ZN,ZO,ZP,ZQ,ZR,ZS,ZT,ZU,ZV,ZW,ZX,ZY,ZZ,Z0,Z1,Z2,Z3,Z4,Z5,Z6,Z7,Z8,Z9,Ja,Jb,Jc,Jd,Je,Jf,Jg,Jh,Ji,Jj,Jk,Jl,Jm,Jn,Jo,Jp,Jq,Jr,Js,Jt,Ju,Jv,Jw,Jx,Jy,Jz,JA,JB,JC,JD,JE,JF,JG,JH,JI,JJ,JK,JL,JM,JN,JO,JP,JQ,JR,JS,JT,JU,JV,JW,JX,JY,JZ,J0,J1,J2,J3,J4,J5,J6,J7,J8,J9,Ka,Kb,Kc,Kd,Ke,Kf,Kg,Kh,Ki,Kj,Kk,Kl,Km,Kn,Ko,Kp,Kq,Kr,Ks,Kt,Ku,Kv,Kw,Kx,Ky,Kz,KA,KB,KC,KD,KE,KF,KG,KH,KI,KJ,KK,KL,KM,KN,KO,KP,KQ,KR,KS,KT,KU,KV,KW,KX,KY,KZ,K0,K1,K2,K3,K4,K5,K6,K7,K8,K9,Ga,Gb,Gc,Gd,Ge,Gf,Gg,Gh,Gi,Gj,Gk,Gl,Gm,Gn,Gp,Gq,Gr,Gs,Gt,Gu,Gv,Gw,Gx,Gy,Gz,GA,GB,GC,GD,GE,GF,GG,GH,GI,GJ,GK,GL,GM,GN,GO,GP,GQ,GR,GS,GT,Nat.le_refl,Nat.reduceLeDiff,List.drop_zero,us_take,us_drop,is_take,is_drop,List.take_zero,gn,if_true,if_false,Nat.reduceEqDiff,Int.reduceEq,reduceCtorEq,Nat.succ_ne_self,Nat.reduceAdd,Nat.zero_add,Nat.add_zero,Nat.reduceMul,Nat.mul_one,Nat.one_mul,Nat.zero_mul,Nat.sub_zero,decide_true,decide_false,Bool.and_self,Bool.and_true,Bool.true_and,Bool.false_and,Bool.and_false,Bool.not_true,Bool.not_false,List.length_cons,List.length_nil,us_len,is_len,tb_len,dl_len,us_set,is_set,tb_set,Nat.not_lt_zero,List.nil_append,us_rep,is_rep, l2.eq, l3, l4, fn1]
  · have e1 : (L : Int) - (n : Int) - (cnt : Int) < 0 := by omega
    have l1 : decide ((0 : Int) ≤ (L : Int) - (n : Int) - (cnt : Int)) = false := decide_eq_false (by omega)
    have e2 : tb 18 (fun j => if cnt - cnt ≤ j then qd j else 0) = dl 64 18 (N / D) := tb_congr fun j hj => by rw [if_pos (by omega), hqd]
    have e3 : stN N D (cnt - cnt) = N % D := by rw [Nat.sub_self, stN_zero]
    rw [e2, e3]
    simp only [Qa,Qb,Qc,Qd,Qe,Qf,Qg,Qh,Qi,Qj,Qk,Ql,Qm,Qn,Qo,Qp,Qq,Qr,Qs,Qt,Qu,Qv,Qw,Qx,Qy,Qz,QA,QB,QC,QD,QE,QF,QG,QH,QI,QJ,QK,QL,QM,QN,QO,QP,QQ,QR,QS,QT,QU,QV,QW,QX,QY,QZ,Q0,Q1,Q2,Q3,Q4,Q5,Q6,Q7,Q8,Q9,Xa,Xb,Xc,Xd,Xe,Xf,Xg,Xh,Xi,Xj,Xk,Xl,Xm,Xn,Xo,Xp,Xq,Xr,Xs,Xt,Xu,Xv,Xw,Xx,Xy,Xz,XA,XB,XC,XD,XE,XF,XG,XH,XI,XJ,XK,XL,XM,XN,XO,XP,XQ,XR,XS,XT,XU,XV,XW,XX,XY,XZ,X0,X1,X2,X3,X4,X5,X6,X7,X8,X9,Ya,Yb,Yc,Yd,Ye,Yf,Yg,Yh,Yi,Yj,Yk,Yl,Ym,Yn,Yo,Yp,Yq,Yr,Ys,Yt,Yu,Yv,Yw,Yx,Yy,Yz,YA,YB,YC,YD,YE,YF,YG,YH,YI,YJ,YK,YL,YM,YN,YO,YP,YQ,YR,YS,YT,YU,YV,YW,YX,YY,YZ,Y0,Y1,Y2,Y3,Y4,Y5,Y6,Y7,Y8,Y9,Za,Zb,Zc,Zd,Ze,Zf,Zg,Zh,Zi,Zj,Zk,Zl,Zm,Zn,Zo,Zp,Zq,Zr,Zs,Zt,Zu,Zv,Zw,Zx,Zy,Zz,ZA,ZB,ZC,ZD,ZE,ZF,ZG,ZH,ZI,ZJ,ZK,ZL,ZM,ZN,ZO,ZP,ZQ,ZR,ZS,ZT,ZU,ZV,ZW,ZX,ZY,ZZ,Z0,Z1,Z2,Z3,Z4,Z5,Z6,Z7,Z8,Z9,Ja,Jb,Jc,Jd,Je,Jf,Jg,Jh,Ji,Jj,Jk,Jl,Jm,Jn,Jo,Jp,Jq,Jr,Js,Jt,Ju,Jv,Jw,Jx,Jy,Jz,JA,JB,JC,JD,JE,JF,JG,JH,JI,JJ,JK,JL,JM,JN,JO,JP,JQ,JR,JS,JT,JU,JV,JW,JX,JY,JZ,J0,J1,J2,J3,J4,J5,J6,J7,J8,J9,Ka,Kb,Kc,Kd,Ke,Kf,Kg,Kh,Ki,Kj,Kk,Kl,Km,Kn,Ko,Kp,Kq,Kr,Ks,Kt,Ku,Kv,Kw,Kx,Ky,Kz,KA,KB,KC,KD,KE,KF,KG,KH,KI,KJ,KK,KL,KM,KN,KO,KP,KQ,KR,KS,KT,KU,KV,KW,KX,KY,KZ,K0,K1,K2,K3,K4,K5,K6,K7,K8,K9,Ga,Gb,Gc,Gd,Ge,Gf,Gg,Gh,Gi,Gj,Gk,Gl,Gm,Gn,Gp,Gq,Gr,Gs,Gt,Gu,Gv,Gw,Gx,Gy,Gz,GA,GB,GC,GD,GE,GF,GG,GH,GI,GJ,GK,GL,GM,GN,GO,GP,GQ,GR,GS,GT,Nat.le_refl,Nat.reduceLeDiff,List.drop_zero,us_take,us_drop,is_take,is_drop,List.take_zero,gn,if_true,if_false,Nat.reduceEqDiff,Int.reduceEq,reduceCtorEq,Nat.succ_ne_self,Nat.reduceAdd,Nat.zero_add,Nat.add_zero,Nat.reduceMul,Nat.mul_one,Nat.one_mul,Nat.zero_mul,Nat.sub_zero,decide_true,decide_false,Bool.and_self,Bool.and_true,Bool.true_and,Bool.false_and,Bool.and_false,Bool.not_true,Bool.not_false,List.length_cons,List.length_nil,us_len,is_len,tb_len,dl_len,us_set,is_set,tb_set,Nat.not_lt_zero,List.nil_append,us_rep,is_rep, l1]
  have hRl : N % D < 2 ^ (64 * n) := Nat.lt_trans (Nat.mod_lt _ hDp) hD
  obtain ⟨R, hRe⟩ : ∃ R, R = N % D := ⟨_, rfl⟩
  rw [← hRe] at hRl ⊢
  clear htop hst hz18 hqd0 hqd hR hQ hRe
  obtain ⟨r, hr⟩ : ∃ f : Nat → Nat, ∀ j, f j = R / 2 ^ (64 * j) % 2 ^ 64 := ⟨_, fun _ => rfl⟩
  obtain ⟨v, hv⟩ : ∃ f : Nat → Nat, ∀ j, f j = R / 2 ^ s / 2 ^ (64 * j) % 2 ^ 64 := ⟨_, fun _ => rfl⟩
  have hor : ∀ i, (r i / 2 ^ s ||| r (i + 1) * 2 ^ (64 - s) % 2 ^ 64) = v i := fun i => by
    rw [hr, hr, hv, shr_split (x := R) (k := s) (q := 0) (r := s) (by omega) i]
    exact shr_word R 0 s i (by omega)
  have hs0' : s = 0 → ∀ i, r i / 2 ^ s = v i := fun h i => by rw [hr, hv, h, Nat.pow_zero, Nat.div_one, Nat.div_one]
  have hRow : dl 64 19 R = tb 19 r := tb_congr fun j hj => (hr j).symm
  have hend : tb 9 (fun j => if j < n then v j else 0) = dl 64 9 (R / 2 ^ s) := tb_congr fun j hj => by
    by_cases h : j < n
    · rw [if_pos h, hv]
    · rw [if_neg h, word_zero (Nat.lt_of_le_of_lt (Nat.div_le_self _ _) hRl) (by omega)]
  have hms : min s 64 = s := Nat.min_eq_left (by omega)
  have hmt : min (64 - s) 64 = 64 - s := Nat.min_eq_left (by omega)
  rw [hRow]
  simp only [Qa,Qb,Qc,Qd,Qe,Qf,Qg,Qh,Qi,Qj,Qk,Ql,Qm,Qn,Qo,Qp,Qq,Qr,Qs,Qt,Qu,Qv,Qw,Qx,Qy,Qz,QA,QB,QC,QD,QE,QF,QG,QH,QI,QJ,QK,QL,QM,QN,QO,QP,QQ,QR,QS,QT,QU,QV,QW,QX,QY,QZ,Q0,Q1,Q2,Q3,Q4,Q5,Q6,Q7,Q8,Q9,Xa,Xb,Xc,Xd,Xe,Xf,Xg,Xh,Xi,Xj,Xk,Xl,Xm,Xn,Xo,Xp,Xq,Xr,Xs,Xt,Xu,Xv,Xw,Xx,Xy,Xz,XA,XB,XC,XD,XE,XF,XG,XH,XI,XJ,XK,XL,XM,XN,XO,XP,XQ,XR,XS,XT,XU,XV,XW,XX,XY,XZ,X0,X1,X2,X3,X4,X5,X6,X7,X8,X9,Ya,Yb,Yc,Yd,Ye,Yf,Yg,Yh,Yi,Yj,Yk,Yl,Ym,Yn,Yo,Yp,Yq,Yr,Ys,Yt,Yu,Yv,Yw,Yx,Yy,Yz,YA,YB,YC,YD,YE,YF,YG,YH,YI,YJ,YK,YL,YM,YN,YO,YP,YQ,YR,YS,YT,YU,YV,YW,YX,YY,YZ,Y0,Y1,Y2,Y3,Y4,Y5,Y6,Y7,Y8,Y9,Za,Zb,Zc,Zd,Ze,Zf,Zg,Zh,Zi,Zj,Zk,Zl,Zm,Zn,Zo,Zp,Zq,Zr,Zs,Zt,Zu,Zv,Zw,Zx,Zy,Zz,ZA,ZB,ZC,ZD,ZE,ZF,ZG,ZH,ZI,ZJ,ZK,ZL,ZM,ZN,ZO,ZP,ZQ,ZR,ZS,ZT,ZU,ZV,ZW,ZX,ZY,ZZ,Z0,Z1,Z2,Z3,Z4,Z5,Z6,Z7,Z8,Z9,Ja,Jb,Jc,Jd,Je,Jf,Jg,Jh,Ji,Jj,Jk,Jl,Jm,Jn,Jo,Jp,Jq,Jr,Js,Jt,Ju,Jv,Jw,Jx,Jy,Jz,JA,JB,JC,JD,JE,JF,JG,JH,JI,JJ,JK,JL,JM,JN,JO,JP,JQ,JR,JS,JT,JU,JV,JW,JX,JY,JZ,J0,J1,J2,J3,J4,J5,J6,J7,J8,J9,Ka,Kb,Kc,Kd,Ke,Kf,Kg,Kh,Ki,Kj,Kk,Kl,Km,Kn,Ko,Kp,Kq,Kr,Ks,Kt,Ku,Kv,Kw,Kx,Ky,Kz,KA,KB,KC,KD,KE,KF,KG,KH,KI,KJ,KK,KL,KM,KN,KO,KP,KQ,KR,KS,KT,KU,KV,KW,KX,KY,KZ,K0,K1,K2,K3,K4,K5,K6,K7,K8,K9,Ga,Gb,Gc,Gd,Ge,Gf,Gg,Gh,Gi,Gj,Gk,Gl,Gm,Gn,Gp,Gq,Gr,Gs,Gt,Gu,Gv,Gw,Gx,Gy,Gz,GA,GB,GC,GD,GE,GF,GG,GH,GI,GJ,GK,GL,GM,GN,GO,GP,GQ,GR,GS,GT,Nat.le_refl,Nat.reduceLeDiff,List.drop_zero,us_take,us_drop,is_take,is_drop,List.take_zero,gn,if_true,if_false,Nat.reduceEqDiff,Int.reduceEq,reduceCtorEq,Nat.succ_ne_self,Nat.reduceAdd,Nat.zero_add,Nat.add_zero,Nat.reduceMul,Nat.mul_one,Nat.one_mul,Nat.zero_mul,Nat.sub_zero,decide_true,decide_false,Bool.and_self,Bool.and_true,Bool.true_and,Bool.false_and,Bool.and_false,Bool.not_true,Bool.not_false,List.length_cons,List.length_nil,us_len,is_len,tb_len,dl_len,us_set,is_set,tb_set,Nat.not_lt_zero,List.nil_append,us_rep,is_rep, k1]
  rw [loop_use T (fun i => ⟨[(0, .vr dd 0), (4, .loc (us 64 (dl 64 18 0))), (5, .loc (us 64 (dl 64 9 0))), (6, .hp 0 0), (7, .loc (us 64 (dl 64 18 (N / D)))), (13, .loc (us 64 (tb 9 (fun j => if j < i then v j else 0)))), (84, .i (n : Int)), (85, .i (i : Int))], uH r⟩) n
    (.exit 6, ⟨[(4, .loc (us 64 (dl 64 18 0))), (5, .loc (us 64 (dl 64 9 0))), (7, .loc (us 64 (dl 64 18 (N / D)))), (13, .loc (us 64 (dl 64 9 (R / 2 ^ s))))], uH r⟩) ?h0d (by simp) ?hsd ?hnd]
  rotate_left
  · have e1 : us 64 (dl 64 9 0) = us 64 (tb 9 (fun j => if j < 0 then v j else 0)) := by rw [zero9t]; simp
    rw [← e1]; rfl
  · intro i hi
    have l1 : decide ((i : Int) < (n : Int)) = true := decide_eq_true (by omega)
    have l2 := ixOf_nat (show i < 9 by omega)
    have l3 := ixOf_nat (show i < 19 by omega)
    have l4 := part_tb (w := 64) r i (show i < 19 by omega)
    obtain ⟨i1, hi1⟩ : ∃ z, z = i + 1 := ⟨_, rfl⟩
    have l5 := ixOf_nat (show i1 < 19 by omega)
    have l6 := part_tb (w := 64) r i1 (show i1 < 19 by omega)
    have l7 : F (w64 ((i : Int) + 1)) (i1 : Int) := ⟨by unfold w64; omega⟩
    have l8 : (i + 1 ≤ 9) = True := by simp; omega
    have l9 := hor i
    obtain ⟨y, hy⟩ : ∃ y, r i / 2 ^ s = y := ⟨_, rfl⟩
    rw [hy] at l9
    have fn0 : tb 9 (fun j => if j = i then v i else if j < i then v j else 0) = tb 9 (fun j => if j < i1 then v j else 0) := tb_congr fun j hj => by
      by_cases h1 : j = i
      · rw [if_pos h1, if_pos (by omega), h1]
      · rw [if_neg h1]
        by_cases h2 : j < i
        · rw [if_pos h2, if_pos (by omega)]
        · rw [if_neg h2, if_neg (by omega)]
    by_cases h0 : s = 0
    · have c4 : decide ((0 : Int) < (s : Int)) = false := decide_eq_false (by omega)
      have y1 := hs0' h0 i
      rw [hy] at y1
      rw [← hi1]
      simp only [uH]
      simp only [Qa,Qb,Qc,Qd,Qe,Qf,Qg,Qh,Qi,Qj,Qk,Ql,Qm,Qn,Qo,Qp,Qq,Qr,Qs,Qt,Qu,Qv,Qw,Qx,Qy,Qz,QA,QB,QC,QD,QE,QF,QG,QH,QI,QJ,QK,QL,QM,QN,QO,QP,QQ,QR,QS,QT,QU,QV,QW,QX,QY,QZ,Q0,Q1,Q2,Q3,Q4,Q5,Q6,Q7,Q8,Q9,Xa,Xb,Xc,Xd,Xe,Xf,Xg,Xh,Xi,Xj,Xk,Xl,Xm,Xn,Xo,Xp,Xq,Xr,Xs,Xt,Xu,Xv,Xw,Xx,Xy,Xz,XA,XB,XC,XD,XE,XF,XG,XH,XI,XJ,XK,XL,XM,XN,XO,XP,XQ,XR,XS,XT,XU,XV,XW,XX,XY,XZ,X0,X1,X2,X3,X4,X5,X6,X7,X8,X9,Ya,Yb,Yc,Yd,Ye,Yf,Yg,Yh,Yi,Yj,Yk,Yl,Ym,Yn,Yo,Yp,Yq,Yr,Ys,Yt,Yu,Yv,Yw,Yx,Yy,Yz,YA,YB,YC,YD,YE,YF,YG,YH,YI,YJ,YK,YL,YM,YN,YO,YP,YQ,YR,YS,YT,YU,YV,YW,YX,YY,YZ,Y0,Y1,Y2,Y3,Y4,Y5,Y6,Y7,Y8,Y9,Za,Zb,Zc,Zd,Ze,Zf,Zg,Zh,Zi,Zj,Zk,Zl,Zm,Zn,Zo,Zp,Zq,Zr,Zs,Zt,Zu,Zv,Zw,Zx,Zy,Zz,ZA,ZB,ZC,ZD,ZE,ZF,ZG,ZH,ZI,ZJ,ZK,ZL,ZM,ZN,ZO,ZP,ZQ,ZR,ZS,ZT,ZU,ZV,ZW,ZX,ZY,ZZ,Z0,Z1,Z2,Z3,Z4,Z5,Z6,Z7,Z8,Z9,Ja,Jb,Jc,Jd,Je,Jf,Jg,Jh,Ji,Jj,Jk,Jl,Jm,Jn,Jo,Jp,Jq,Jr,Js,Jt,Ju,Jv,Jw,Jx,Jy,Jz,JA,JB,JC,JD,JE,JF,JG,JH,JI,JJ,JK,JL,JM,JN,JO,JP,JQ,JR,JS,JT,JU,JV,JW,JX,JY,JZ,J0,J1,J2,J3,J4,J5,J6,J7,J8,J9,Ka,Kb,Kc,Kd,Ke,Kf,Kg,Kh,Ki,Kj,Kk,Kl,Km,Kn,Ko,Kp,Kq,Kr,Ks,Kt,Ku,Kv,Kw,Kx,Ky,Kz,KA,KB,KC,KD,KE,KF,KG,KH,KI,KJ,KK,KL,KM,KN,KO,KP,KQ,KR,KS,KT,KU,KV,KW,KX,KY,KZ,K0,K1,K2,K3,K4,K5,K6,K7,K8,K9,Ga,Gb,Gc,Gd,Ge,Gf,Gg,Gh,Gi,Gj,Gk,Gl,Gm,Gn,Gp,Gq,Gr,Gs,Gt,Gu,Gv,Gw,Gx,Gy,Gz,GA,GB,GC,GD,GE,GF,GG,GH,GI,GJ,GK,GL,GM,GN,GO,GP,GQ,GR,GS,GT,Nat.le_refl,Nat.reduceLeDiff,List.drop_zero,us_take,us_drop,is_take,is_drop,List.take_zero,gn,if_true,if_false,Nat.reduceEqDiff,Int.reduceEq,reduceCtorEq,Nat.succ_ne_self,Nat.reduceAdd,Nat.zero_add,Nat.add_zero,Nat.reduceMul,Nat.mul_one,Nat.one_mul,Nat.zero_mul,Nat.sub_zero,decide_true,decide_false,Bool.and_self,Bool.and_true,Bool.true_and,Bool.false_and,Bool.and_false,Bool.not_true,Bool.not_false,List.length_cons,List.length_nil,us_len,is_len,tb_len,dl_len,us_set,is_set,tb_set,Nat.not_lt_zero,List.nil_append,us_rep,is_rep, k2, l1, l2, l3, l4, l7.eq, l8, c4, hms, hy, y1, fn0]
    · have c4 : decide ((0 : Int) < (s : Int)) = true := decide_eq_true (by omega)
      have p2 := part_tb (w := 64) (fun j => if j = i then y else if j < i then v j else 0) i (show i < 9 by omega)
      rw [if_pos rfl] at p2
      have fn1 : tb 9 (fun j => if j = i then v i else if j = i then y else if j < i then v j else 0) = tb 9 (fun j => if j < i1 then v j else 0) := by
        rw [← fn0]
        exact tb_congr fun j hj => by
          by_cases h1 : j = i
          · rw [if_pos h1, if_pos h1]
          · rw [if_neg h1, if_neg h1, if_neg h1]
      rw [← hi1] at l9 ⊢
      simp only [uH]
      simp only [Qa,Qb,Qc,Qd,Qe,Qf,Qg,Qh,Qi,Qj,Qk,Ql,Qm,Qn,Qo,Qp,Qq,Qr,Qs,Qt,Qu,Qv,Qw,Qx,Qy,Qz,QA,QB,QC,QD,QE,QF,QG,QH,QI,QJ,QK,QL,QM,QN,QO,QP,QQ,QR,QS,QT,QU,QV,QW,QX,QY,QZ,Q0,Q1,Q2,Q3,Q4,Q5,Q6,Q7,Q8,Q9,Xa,Xb,Xc,Xd,Xe,Xf,Xg,Xh,Xi,Xj,Xk,Xl,Xm,Xn,Xo,Xp,Xq,Xr,Xs,Xt,Xu,Xv,Xw,Xx,Xy,Xz,XA,XB,XC,XD,XE,XF,XG,XH,XI,XJ,XK,XL,XM,XN,XO,XP,XQ,XR,XS,XT,XU,XV,XW,XX,XY,XZ,X0,X1,X2,X3,X4,X5,X6,X7,X8,X9,Ya,Yb,Yc,Yd,Ye,Yf,Yg,Yh,Yi,Yj,Yk,Yl,Ym,Yn,Yo,Yp,Yq,Yr,Ys,Yt,Yu,Yv,Yw,Yx,Yy,Yz,YA,YB,YC,YD,YE,YF,YG,YH,YI,YJ,YK,YL,YM,YN,YO,YP,YQ,YR,YS,YT,YU,YV,YW,YX,YY,YZ,Y0,Y1,Y2,Y3,Y4,Y5,Y6,Y7,Y8,Y9,Za,Zb,Zc,Zd,Ze,Zf,Zg,Zh,Zi,Zj,Zk,Zl,Zm,Zn,Zo,Zp,Zq,Zr,Zs,Zt,Zu,Zv,Zw,Zx,Zy,Zz,ZA,ZB,ZC,ZD,ZE,ZF,ZG,ZH,ZI,ZJ,ZK,ZL,ZM,ZN,ZO,ZP,ZQ,ZR,ZS,ZT,ZU,ZV,ZW,ZX,ZY,ZZ,Z0,Z1,Z2,Z3,Z4,Z5,Z6,Z7,Z8,Z9,Ja,Jb,Jc,Jd,Je,Jf,Jg,Jh,Ji,Jj,Jk,Jl,Jm,Jn,Jo,Jp,Jq,Jr,Js,Jt,Ju,Jv,Jw,Jx,Jy,Jz,JA,JB,JC,JD,JE,JF,JG,JH,JI,JJ,JK,JL,JM,JN,JO,JP,JQ,JR,JS,JT,JU,JV,JW,JX,JY,JZ,J0,J1,J2,J3,J4,J5,J6,J7,J8,J9,Ka,Kb,Kc,Kd,Ke,Kf,Kg,Kh,Ki,Kj,Kk,Kl,Km,Kn,Ko,Kp,Kq,Kr,Ks,Kt,Ku,Kv,Kw,Kx,Ky,Kz,KA,KB,KC,KD,KE,KF,KG,KH,KI,KJ,KK,KL,KM,KN,KO,KP,KQ,KR,KS,KT,KU,KV,KW,KX,KY,KZ,K0,K1,K2,K3,K4,K5,K6,K7,K8,K9,Ga,Gb,Gc,Gd,Ge,Gf,Gg,Gh,Gi,Gj,Gk,Gl,Gm,Gn,Gp,Gq,Gr,Gs,Gt,Gu,Gv,Gw,Gx,Gy,Gz,GA,GB,GC,GD,GE,GF,GG,GH,GI,GJ,GK,GL,GM,GN,GO,GP,GQ,GR,GS,GT,Nat.le_refl,Nat.reduceLeDiff,List.drop_zero,us_take,us_drop,is_take,is_drop,List.take_zero,gn,if_true,if_false,Nat.reduceEqDiff,Int.reduceEq,reduceCtorEq,Nat.succ_ne_self,Nat.reduceAdd,Nat.zero_add,Nat.add_zero,Nat.reduceMul,Nat.mul_one,Nat.one_mul,Nat.zero_mul,Nat.sub_zero,decide_true,decide_false,Bool.and_self,Bool.and_true,Bool.true_and,Bool.false_and,Bool.and_false,Bool.not_true,Bool.not_false,List.length_cons,List.length_nil,us_len,is_len,tb_len,dl_len,us_set,is_set,tb_set,Nat.not_lt_zero,List.nil_append,us_rep,is_rep, k2, l1, l2, l3, l4, l5, l6, l7.eq, l8, l9, c4, cS.eq, hms, hmt, hy, p2, fn1]
  · have l1 : decide ((n : Int) < (n : Int)) = false := by simp
    rw [hend]
    simp only [uH]
    simp only [Qa,Qb,Qc,Qd,Qe,Qf,Qg,Qh,Qi,Qj,Qk,Ql,Qm,Qn,Qo,Qp,Qq,Qr,Qs,Qt,Qu,Qv,Qw,Qx,Qy,Qz,QA,QB,QC,QD,QE,QF,QG,QH,QI,QJ,QK,QL,QM,QN,QO,QP,QQ,QR,QS,QT,QU,QV,QW,QX,QY,QZ,Q0,Q1,Q2,Q3,Q4,Q5,Q6,Q7,Q8,Q9,Xa,Xb,Xc,Xd,Xe,Xf,Xg,Xh,Xi,Xj,Xk,Xl,Xm,Xn,Xo,Xp,Xq,Xr,Xs,Xt,Xu,Xv,Xw,Xx,Xy,Xz,XA,XB,XC,XD,XE,XF,XG,XH,XI,XJ,XK,XL,XM,XN,XO,XP,XQ,XR,XS,XT,XU,XV,XW,XX,XY,XZ,X0,X1,X2,X3,X4,X5,X6,X7,X8,X9,Ya,Yb,Yc,Yd,Ye,Yf,Yg,Yh,Yi,Yj,Yk,Yl,Ym,Yn,Yo,Yp,Yq,Yr,Ys,Yt,Yu,Yv,Yw,Yx,Yy,Yz,YA,YB,YC,YD,YE,YF,YG,YH,YI,YJ,YK,YL,YM,YN,YO,YP,YQ,YR,YS,YT,YU,YV,YW,YX,YY,YZ,Y0,Y1,Y2,Y3,Y4,Y5,Y6,Y7,Y8,Y9,Za,Zb,Zc,Zd,Ze,Zf,Zg,Zh,Zi,Zj,Zk,Zl,Zm,Zn,Zo,Zp,Zq,Zr,Zs,Zt,Zu,Zv,Zw,Zx,Zy,Zz,ZA,ZB,ZC,ZD,ZE,ZF,ZG,ZH,ZI,ZJ,ZK,ZL,ZM,ZN,ZO,ZP,ZQ,ZR,ZS,ZT,ZU,ZV,ZW,ZX,ZY,ZZ,Z0,Z1,Z2,Z3,Z4,Z5,Z6,Z7,Z8,Z9,Ja,Jb,Jc,Jd,Je,Jf,Jg,Jh,Ji,Jj,Jk,Jl,Jm,Jn,Jo,Jp,Jq,Jr,Js,Jt,Ju,Jv,Jw,Jx,Jy,Jz,JA,JB,JC,JD,JE,JF,JG,JH,JI,JJ,JK,JL,JM,JN,JO,JP,JQ,JR,JS,JT,JU,JV,JW,JX,JY,JZ,J0,J1,J2,J3,J4,J5,J6,J7,J8,J9,Ka,Kb,Kc,Kd,Ke,Kf,Kg,Kh,Ki,Kj,Kk,Kl,Km,Kn,Ko,Kp,Kq,Kr,Ks,Kt,Ku,Kv,Kw,Kx,Ky,Kz,KA,KB,KC,KD,KE,KF,KG,KH,KI,KJ,KK,KL,KM,KN,KO,KP,KQ,KR,KS,KT,KU,KV,KW,KX,KY,KZ,K0,K1,K2,K3,K4,K5,K6,K7,K8,K9,Ga,Gb,Gc,Gd,Ge,Gf,Gg,Gh,Gi,Gj,Gk,Gl,Gm,Gn,Gp,Gq,Gr,Gs,Gt,Gu,Gv,Gw,Gx,Gy,Gz,GA,GB,GC,GD,GE,GF,GG,GH,GI,GJ,GK,GL,GM,GN,GO,GP,GQ,GR,GS,GT,Nat.le_refl,Nat.reduceLeDiff,List.drop_zero,us_take,us_drop,is_take,is_drop,List.take_zero,gn,if_true,if_false,Nat.reduceEqDiff,Int.reduceEq,reduceCtorEq,Nat.succ_ne_self,Nat.reduceAdd,Nat.zero_add,Nat.add_zero,Nat.reduceMul,Nat.mul_one,Nat.one_mul,Nat.zero_mul,Nat.sub_zero,decide_true,decide_false,Bool.and_self,Bool.and_true,Bool.true_and,Bool.false_and,Bool.and_false,Bool.not_true,Bool.not_false,List.length_cons,List.length_nil,us_len,is_len,tb_len,dl_len,us_set,is_set,tb_set,Nat.not_lt_zero,List.nil_append,us_rep,is_rep, l1]
  simp only [uH]
  simp only [Qa,Qb,Qc,Qd,Qe,Qf,Qg,Qh,Qi,Qj,Qk,Ql,Qm,Qn,Qo,Qp,Qq,Qr,Qs,Qt,Qu,Qv,Qw,Qx,Qy,Qz,QA,QB,QC,QD,QE,QF,QG,QH,QI,QJ,QK,QL,QM,QN,QO,QP,QQ,QR,QS,QT,QU,QV,QW,QX,QY,QZ,Q0,Q1,Q2,Q3,Q4,Q5,Q6,Q7,Q8,Q9,Xa,Xb,Xc,Xd,Xe,Xf,Xg,Xh,Xi,Xj,Xk,Xl,Xm,Xn,Xo,Xp,Xq,Xr,Xs,Xt,Xu,Xv,Xw,Xx,Xy,Xz,XA,XB,XC,XD,XE,XF,XG,XH,XI,XJ,XK,XL,XM,XN,XO,XP,XQ,XR,XS,XT,XU,XV,XW,XX,XY,XZ,X0,X1,X2,X3,X4,X5,X6,X7,X8,X9,Ya,Yb,Yc,Yd,Ye,Yf,Yg,Yh,Yi,Yj,Yk,Yl,Ym,Yn,Yo,Yp,Yq,Yr,Ys,Yt,Yu,Yv,Yw,Yx,Yy,Yz,YA,YB,YC,YD,YE,YF,YG,YH,YI,YJ,YK,YL,YM,YN,YO,YP,YQ,YR,YS,YT,YU,YV,YW,YX,YY,YZ,Y0,Y1,Y2,Y3,Y4,Y5,Y6,Y7,Y8,Y9,Za,Zb,Zc,Zd,Ze,Zf,Zg,Zh,Zi,Zj,Zk,Zl,Zm,Zn,Zo,Zp,Zq,Zr,Zs,Zt,Zu,Zv,Zw,Zx,Zy,Zz,ZA,ZB,ZC,ZD,ZE,ZF,ZG,ZH,ZI,ZJ,ZK,ZL,ZM,ZN,ZO,ZP,ZQ,ZR,ZS,ZT,ZU,ZV,ZW,ZX,ZY,ZZ,Z0,Z1,Z2,Z3,Z4,Z5,Z6,Z7,Z8,Z9,Ja,Jb,Jc,Jd,Je,Jf,Jg,Jh,Ji,Jj,Jk,Jl,Jm,Jn,Jo,Jp,Jq,Jr,Js,Jt,Ju,Jv,Jw,Jx,Jy,Jz,JA,JB,JC,JD,JE,JF,JG,JH,JI,JJ,JK,JL,JM,JN,JO,JP,JQ,JR,JS,JT,JU,JV,JW,JX,JY,JZ,J0,J1,J2,J3,J4,J5,J6,J7,J8,J9,Ka,Kb,Kc,Kd,Ke,Kf,Kg,Kh,Ki,Kj,Kk,Kl,Km,Kn,Ko,Kp,Kq,Kr,Ks,Kt,Ku,Kv,Kw,Kx,Ky,Kz,KA,KB,KC,KD,KE,KF,KG,KH,KI,KJ,KK,KL,KM,KN,KO,KP,KQ,KR,KS,KT,KU,KV,KW,KX,KY,KZ,K0,K1,K2,K3,K4,K5,K6,K7,K8,K9,Ga,Gb,Gc,Gd,Ge,Gf,Gg,Gh,Gi,Gj,Gk,Gl,Gm,Gn,Gp,Gq,Gr,Gs,Gt,Gu,Gv,Gw,Gx,Gy,Gz,GA,GB,GC,GD,GE,GF,GG,GH,GI,GJ,GK,GL,GM,GN,GO,GP,GQ,GR,GS,GT,Nat.le_refl,Nat.reduceLeDiff,List.drop_zero,us_take,us_drop,is_take,is_drop,List.take_zero,gn,if_true,if_false,Nat.reduceEqDiff,Int.reduceEq,reduceCtorEq,Nat.succ_ne_self,Nat.reduceAdd,Nat.zero_add,Nat.add_zero,Nat.reduceMul,Nat.mul_one,Nat.one_mul,Nat.zero_mul,Nat.sub_zero,decide_true,decide_false,Bool.and_self,Bool.and_true,Bool.true_and,Bool.false_and,Bool.and_false,Bool.not_true,Bool.not_false,List.length_cons,List.length_nil,us_len,is_len,tb_len,dl_len,us_set,is_set,tb_set,Nat.not_lt_zero,List.nil_append,us_rep,is_rep]

end Mir
