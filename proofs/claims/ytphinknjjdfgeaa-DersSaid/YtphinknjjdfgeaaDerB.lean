/- Package der: Put, Get. Conditions: none. -/
import Derived.Test.YtphinknjjdfgeaaDerA
set_option linter.unusedVariables false
set_option linter.unusedSimpArgs false
set_option exponentiation.threshold 5000
set_option maxRecDepth 20000
namespace Mir

def pField (kind : Nat) (s : List Nat) : List Nat := if s.length < 128 then kind :: (s.length % 256) :: s else kind :: 129 :: (s.length % 256) :: s
def nby (x : Nat) : Nat := if 1 < (bl x + 7) / 8 then (bl x + 7) / 8 else 1
def pNum (x : Nat) : List Nat := if 128 ≤ x / 2 ^ (8 * (nby x - 1)) % 2 ^ 8 then 0 :: bs (nby x) x else bs (nby x) x
def pPut (r t : Nat) : List Nat := pField 48 (pField 2 (pNum r) ++ pField 2 (pNum t))

theorem b2s_vs {H : Heap} {imm : Bool} {n : Nat} {l : List Nat} (hl : l.length = n) : b2sV imm H (.vs n (us 8 l)) = some (.s l) := by
  show (match sliceCells (if imm then [] else H) (.vs n (us 8 l)) with
    | some l' => match l'.mapM byteOf with
      | some m => if lenV (.vs n (us 8 l)) = some m.length then some (V.s m) else none
      | none => none
    | none => none) = _
  rw [Gh]
  dsimp only
  rw [mapM_us]
  dsimp only
  rw [K0, hl, if_pos rfl]

theorem r_derField (kind : Nat) {s : List Nat} (hs : s.length < 1000000000) : Run T f_der_field [.u 8 kind, .s s] [] = some (.s (pField kind s), []) := by
  rw [Run_at T _ (show T f_der_field = some m_der_field from rfl)]
  simp only [c_der_field]
  have k1 : decide (s.length < 9223372036854775808) = true := decide_eq_true (by omega)
  have k2 : F ((((s.length : Nat) : Int) % 2 ^ 8).toNat) (s.length % 256) := ⟨by omega⟩
  obtain ⟨c, hc⟩ : ∃ c, s.length % 256 = c := ⟨_, rfl⟩
  rw [hc] at k2
  by_cases h : s.length < 128
  · have k3 : decide ((s.length : Int) < 128) = true := decide_eq_true (by omega)
    have e : pField kind s = kind :: c :: s := by rw [pField, if_pos h, hc]
    have k4 : b2sV true [] (.vs 2 [.u 8 kind, .u 8 c]) = some (.s [kind, c]) := b2s_vs (l := [kind, c]) rfl
    have k5 : binV .add (.s [kind, c]) (.s s) = some (.s (kind :: c :: s)) := s_add _ _ (by simp; omega)
    have k6 : okc 1 [V.u 8 kind] 0 2 = true := by simp [okc, cellV]
    have k7 : okc 1 [V.u 8 c] 1 2 = true := by simp [okc, cellV]
    rw [e]
    simp only [Qa,Qb,Qc,Qd,Qe,Qf,Qg,Qh,Qi,Qj,Qk,Ql,Qm,Qn,Qo,Qp,Qq,Qr,Qs,Qt,Qu,Qv,Qw,Qx,Qy,Qz,QA,QB,QC,QD,QE,QF,QG,QH,QI,QJ,QK,QL,QM,QN,QO,QP,QQ,QR,QS,QT,QU,QV,QW,QX,QY,QZ,Q0,Q1,Q2,Q3,Q4,Q5,Q6,Q7,Q8,Q9,Xa,Xb,Xc,Xd,Xe,Xf,Xg,Xh,Xi,Xj,Xk,Xl,Xm,Xn,Xo,Xp,Xq,Xr,Xs,Xt,Xu,Xv,Xw,Xx,Xy,Xz,XA,XB,XC,XD,XE,XF,XG,XH,XI,XJ,XK,XL,XM,XN,XO,XP,XQ,XR,XS,XT,XU,XV,XW,XX,XY,XZ,X0,X1,X2,X3,X4,X5,X6,X7,X8,X9,Ya,Yb,Yc,Yd,Ye,Yf,Yg,Yh,Yi,Yj,Yk,Yl,Ym,Yn,Yo,Yp,Yq,Yr,Ys,Yt,Yu,Yv,Yw,Yx,Yy,Yz,YA,YB,YC,YD,YE,YF,YG,YH,YI,YJ,YK,YL,YM,YN,YO,YP,YQ,YR,YS,YT,YU,YV,YW,YX,YY,YZ,Y0,Y1,Y2,Y3,Y4,Y5,Y6,Y7,Y8,Y9,Za,Zb,Zc,Zd,Ze,Zf,Zg,Zh,Zi,Zj,Zk,Zl,Zm,Zn,Zo,Zp,Zq,Zr,Zs,Zt,Zu,Zv,Zw,Zx,Zy,Zz,ZA,ZB,ZC,ZD,ZE,ZF,ZG,ZH,ZI,ZJ,ZK,ZL,ZM,ZN,ZO,ZP,ZQ,ZR,ZS,ZT,ZU,ZV,ZW,ZX,ZY,ZZ,Z0,Z1,Z2,Z3,Z4,Z5,Z6,Z7,Z8,Z9,Ja,Jb,Jc,Jd,Je,Jf,Jg,Jh,Ji,Jj,Jk,Jl,Jm,Jn,Jo,Jp,Jq,Jr,Js,Jt,Ju,Jv,Jw,Jx,Jy,Jz,JA,JB,JC,JD,JE,JF,JG,JH,JI,JJ,JK,JL,JM,JN,JO,JP,JQ,JR,JS,JT,JU,JV,JW,JX,JY,JZ,J0,J1,J2,J3,J4,J5,J6,J7,J8,J9,Ka,Kb,Kc,Kd,Ke,Kf,Kg,Kh,Ki,Kj,Kk,Kl,Km,Kn,Ko,Kp,Kq,Kr,Ks,Kt,Ku,Kv,Kw,Kx,Ky,Kz,KA,KB,KC,KD,KE,KF,KG,KH,KI,KJ,KK,KL,KM,KN,KO,KP,KQ,KR,KS,KT,KU,KV,KW,KX,KY,KZ,K0,K1,K2,K3,K4,K5,K6,K7,K8,K9,Ga,Gb,Gc,Gd,Ge,Gf,Gg,Gh,Gi,Gj,Gk,Gl,Gm,Gn,Gp,Gq,Gr,Gs,Gt,Gu,Gv,Gw,Gx,Gy,Gz,GA,GB,GC,GD,GE,GF,GG,GH,GI,GJ,GK,GL,GM,GN,GO,GP,GQ,GR,GS,GT,Nat.le_refl,Nat.reduceLeDiff,List.drop_zero,us_take,us_drop,is_take,is_drop,List.take_zero,gn,if_true,if_false,Nat.reduceEqDiff,Int.reduceEq,reduceCtorEq,Nat.succ_ne_self,Nat.reduceAdd,Nat.zero_add,Nat.add_zero,Nat.reduceMul,Nat.mul_one,Nat.one_mul,Nat.zero_mul,Nat.sub_zero,decide_true,decide_false,Bool.and_self,Bool.and_true,Bool.true_and,Bool.false_and,Bool.and_false,Bool.not_true,Bool.not_false,List.length_cons,List.length_nil,us_len,is_len,tb_len,dl_len,us_set,is_set,tb_set,Nat.not_lt_zero,List.nil_append,us_rep,is_rep, List.set_cons_zero, List.set_cons_succ, k1, k2.eq, k3, k4, k5, k6, k7]
  · have k3 : decide ((s.length : Int) < 128) = false := decide_eq_false (by omega)
    have e : pField kind s = kind :: 129 :: c :: s := by rw [pField, if_neg h, hc]
    have k4 : b2sV true [] (.vs 3 [.u 8 kind, .u 8 129, .u 8 c]) = some (.s [kind, 129, c]) := b2s_vs (l := [kind, 129, c]) rfl
    have k5 : binV .add (.s [kind, 129, c]) (.s s) = some (.s (kind :: 129 :: c :: s)) := s_add _ _ (by simp; omega)
    have k6 : okc 1 [V.u 8 kind] 0 3 = true := by simp [okc, cellV]
    have k7 : okc 1 [V.u 8 129] 1 3 = true := by simp [okc, cellV]
    have k8 : okc 1 [V.u 8 c] 2 3 = true := by simp [okc, cellV]
    rw [e]
    simp only [Qa,Qb,Qc,Qd,Qe,Qf,Qg,Qh,Qi,Qj,Qk,Ql,Qm,Qn,Qo,Qp,Qq,Qr,Qs,Qt,Qu,Qv,Qw,Qx,Qy,Qz,QA,QB,QC,QD,QE,QF,QG,QH,QI,QJ,QK,QL,QM,QN,QO,QP,QQ,QR,QS,QT,QU,QV,QW,QX,QY,QZ,Q0,Q1,Q2,Q3,Q4,Q5,Q6,Q7,Q8,Q9,Xa,Xb,Xc,Xd,Xe,Xf,Xg,Xh,Xi,Xj,Xk,Xl,Xm,Xn,Xo,Xp,Xq,Xr,Xs,Xt,Xu,Xv,Xw,Xx,Xy,Xz,XA,XB,XC,XD,XE,XF,XG,XH,XI,XJ,XK,XL,XM,XN,XO,XP,XQ,XR,XS,XT,XU,XV,XW,XX,XY,XZ,X0,X1,X2,X3,X4,X5,X6,X7,X8,X9,Ya,Yb,Yc,Yd,Ye,Yf,Yg,Yh,Yi,Yj,Yk,Yl,Ym,Yn,Yo,Yp,Yq,Yr,Ys,Yt,Yu,Yv,Yw,Yx,Yy,Yz,YA,YB,YC,YD,YE,YF,YG,YH,YI,YJ,YK,YL,YM,YN,YO,YP,YQ,YR,YS,YT,YU,YV,YW,YX,YY,YZ,Y0,Y1,Y2,Y3,Y4,Y5,Y6,Y7,Y8,Y9,Za,Zb,Zc,Zd,Ze,Zf,Zg,Zh,Zi,Zj,Zk,Zl,Zm,Zn,Zo,Zp,Zq,Zr,Zs,Zt,Zu,Zv,Zw,Zx,Zy,Zz,ZA,ZB,ZC,ZD,ZE,ZF,ZG,ZH,ZI,ZJ,ZK,ZL,ZM,ZN,ZO,ZP,ZQ,ZR,ZS,ZT,ZU,ZV,ZW,ZX,ZY,ZZ,Z0,Z1,Z2,Z3,Z4,Z5,Z6,Z7,Z8,Z9,Ja,Jb,Jc,Jd,Je,Jf,Jg,Jh,Ji,Jj,Jk,Jl,Jm,Jn,Jo,Jp,Jq,Jr,Js,Jt,Ju,Jv,Jw,Jx,Jy,Jz,JA,JB,JC,JD,JE,JF,JG,JH,JI,JJ,JK,JL,JM,JN,JO,JP,JQ,JR,JS,JT,JU,JV,JW,JX,JY,JZ,J0,J1,J2,J3,J4,J5,J6,J7,J8,J9,Ka,Kb,Kc,Kd,Ke,Kf,Kg,Kh,Ki,Kj,Kk,Kl,Km,Kn,Ko,Kp,Kq,Kr,Ks,Kt,Ku,Kv,Kw,Kx,Ky,Kz,KA,KB,KC,KD,KE,KF,KG,KH,KI,KJ,KK,KL,KM,KN,KO,KP,KQ,KR,KS,KT,KU,KV,KW,KX,KY,KZ,K0,K1,K2,K3,K4,K5,K6,K7,K8,K9,Ga,Gb,Gc,Gd,Ge,Gf,Gg,Gh,Gi,Gj,Gk,Gl,Gm,Gn,Gp,Gq,Gr,Gs,Gt,Gu,Gv,Gw,Gx,Gy,Gz,GA,GB,GC,GD,GE,GF,GG,GH,GI,GJ,GK,GL,GM,GN,GO,GP,GQ,GR,GS,GT,Nat.le_refl,Nat.reduceLeDiff,List.drop_zero,us_take,us_drop,is_take,is_drop,List.take_zero,gn,if_true,if_false,Nat.reduceEqDiff,Int.reduceEq,reduceCtorEq,Nat.succ_ne_self,Nat.reduceAdd,Nat.zero_add,Nat.add_zero,Nat.reduceMul,Nat.mul_one,Nat.one_mul,Nat.zero_mul,Nat.sub_zero,decide_true,decide_false,Bool.and_self,Bool.and_true,Bool.true_and,Bool.false_and,Bool.and_false,Bool.not_true,Bool.not_false,List.length_cons,List.length_nil,us_len,is_len,tb_len,dl_len,us_set,is_set,tb_set,Nat.not_lt_zero,List.nil_append,us_rep,is_rep, List.set_cons_zero, List.set_cons_succ, k1, k2.eq, k3, k4, k5, k6, k7, k8]

theorem nby_pos (x : Nat) : 1 ≤ nby x := by unfold nby; split <;> omega
theorem nby_le {x : Nat} (hx : x < M) : nby x ≤ 72 := by
  have : bl x ≤ 576 := bl_le_iff.2 hx
  unfold nby; split <;> omega
theorem nby_bl (x : Nat) : bl x ≤ 8 * nby x := by unfold nby; split <;> omega
theorem pNum_len {x : Nat} (hx : x < M) : (pNum x).length ≤ 73 ∧ 1 ≤ (pNum x).length := by
  have h1 := nby_le hx
  have h2 := nby_pos x
  unfold pNum
  split
  · simp [bs_len]; omega
  · rw [bs_len]; omega

theorem r_derNumber {x : Nat} (hx : x < M) : Run T f_der_number [natv x] [] = some (.s (pNum x), []) := by
  rw [Run_at T _ (show T f_der_number = some m_der_number from rfl)]
  simp only [c_der_number]
  have c1 := r_natBits hx
  have h1 := nby_le hx
  have h2 := nby_pos x
  have c2 := r_natBytes hx h1 (nby_bl x)
  have hb : bl x ≤ 576 := bl_le_iff.2 hx
  obtain ⟨b, hb'⟩ : ∃ b, b = bl x := ⟨_, rfl⟩
  obtain ⟨b7, hb7⟩ : ∃ b7, b7 = b + 7 := ⟨_, rfl⟩
  obtain ⟨k, hk⟩ : ∃ k, k = (b + 7) / 8 := ⟨_, rfl⟩
  have hn : nby x = if 1 < k then k else 1 := by unfold nby; rw [← hb', ← hk]
  obtain ⟨n, hn'⟩ : ∃ n, n = nby x := ⟨_, rfl⟩
  have k1 : F (w64 ((b : Int) + 7)) (b7 : Int) := ⟨by rw [hb7]; unfold w64; omega⟩
  have k2 : F (w64 (Int.tdiv (b7 : Int) 8)) (k : Int) := ⟨by rw [Int.tdiv_eq_ediv_of_nonneg (by omega), hk, hb7]; unfold w64; omega⟩
  have k3 : F (if (1 : Int) < (k : Int) then (k : Int) else 1) (n : Int) := ⟨by
    rw [hn', hn]
    by_cases h : 1 < k
    · rw [if_pos h, if_pos (by omega)]
    · rw [if_neg h, if_neg (by omega)]; rfl⟩
  rw [← hb'] at c1
  have hp : pNum x = if 128 ≤ x / 2 ^ (8 * (n - 1)) % 2 ^ 8 then 0 :: bs n x else bs n x := by unfold pNum; rw [← hn']
  rw [← hn'] at c2 h1 h2
  have k4 := ixOf_nat (show 0 < n by omega)
  rw [Int.natCast_zero] at k4
  have k5 : (bs n x)[0]? = some (x / 2 ^ (8 * (n - 1)) % 2 ^ 8) := by
    have := tb_get (f := fun j => x / 2 ^ (8 * (n - 1 - j)) % 2 ^ 8) (show 0 < n by omega)
    rw [Nat.sub_zero] at this
    exact this
  obtain ⟨y, hy⟩ : ∃ y, y = x / 2 ^ (8 * (n - 1)) % 2 ^ 8 := ⟨_, rfl⟩
  rw [← hy] at hp k5
  by_cases h : 128 ≤ y
  · have k6 : decide (128 ≤ y) = true := decide_eq_true h
    have k7 : binV .add (.s [0]) (.s (bs n x)) = some (.s (0 :: bs n x)) := s_add _ _ (by simp [bs_len]; omega)
    rw [hp, if_pos h]
    simp only [Qa,Qb,Qc,Qd,Qe,Qf,Qg,Qh,Qi,Qj,Qk,Ql,Qm,Qn,Qo,Qp,Qq,Qr,Qs,Qt,Qu,Qv,Qw,Qx,Qy,Qz,QA,QB,QC,QD,QE,QF,QG,QH,QI,QJ,QK,QL,QM,QN,QO,QP,QQ,QR,QS,QT,QU,QV,QW,QX,QY,QZ,Q0,Q1,Q2,Q3,Q4,Q5,Q6,Q7,Q8,Q9,Xa,Xb,Xc,Xd,Xe,Xf,Xg,Xh,Xi,Xj,Xk,Xl,Xm,Xn,Xo,Xp,Xq,Xr,Xs,Xt,Xu,Xv,Xw,Xx,Xy,Xz,XA,XB,XC,XD,XE,XF,XG,XH,XI,XJ,XK,XL,XM,XN,XO,XP,XQ,XR,XS,XT,XU,XV,XW,XX,XY,XZ,X0,X1,X2,X3,X4,X5,X6,X7,X8,X9,Ya,Yb,Yc,Yd,Ye,Yf,Yg,Yh,Yi,Yj,Yk,Yl,Ym,Yn,Yo,Yp,Yq,Yr,Ys,Yt,Yu,Yv,Yw,Yx,Yy,Yz,YA,YB,YC,YD,YE,YF,YG,YH,YI,YJ,YK,YL,YM,YN,YO,YP,YQ,YR,YS,YT,YU,YV,YW,YX,YY,YZ,Y0,Y1,Y2,Y3,Y4,Y5,Y6,Y7,Y8,Y9,Za,Zb,Zc,Zd,Ze,Zf,Zg,Zh,Zi,Zj,Zk,Zl,Zm,Zn,Zo,Zp,Zq,Zr,Zs,Zt,Zu,Zv,Zw,Zx,Zy,Zz,ZA,ZB,ZC,ZD,ZE,ZF,ZG,ZH,ZI,ZJ,ZK,ZL,ZM,ZN,ZO,ZP,ZQ,ZR,ZS,ZT,ZU,ZV,ZW,ZX,ZY,ZZ,Z0,Z1,Z2,Z3,Z4,Z5,Z6,Z7,Z8,Z9,Ja,Jb,Jc,Jd,Je,Jf,Jg,Jh,Ji,Jj,Jk,Jl,Jm,Jn,Jo,Jp,Jq,Jr,Js,Jt,Ju,Jv,Jw,Jx,Jy,Jz,JA,JB,JC,JD,JE,JF,JG,JH,JI,JJ,JK,JL,JM,JN,JO,JP,JQ,JR,JS,JT,JU,JV,JW,JX,JY,JZ,J0,J1,J2,J3,J4,J5,J6,J7,J8,J9,Ka,Kb,Kc,Kd,Ke,Kf,Kg,Kh,Ki,Kj,Kk,Kl,Km,Kn,Ko,Kp,Kq,Kr,Ks,Kt,Ku,Kv,Kw,Kx,Ky,Kz,KA,KB,KC,KD,KE,KF,KG,KH,KI,KJ,KK,KL,KM,KN,KO,KP,KQ,KR,KS,KT,KU,KV,KW,KX,KY,KZ,K0,K1,K2,K3,K4,K5,K6,K7,K8,K9,Ga,Gb,Gc,Gd,Ge,Gf,Gg,Gh,Gi,Gj,Gk,Gl,Gm,Gn,Gp,Gq,Gr,Gs,Gt,Gu,Gv,Gw,Gx,Gy,Gz,GA,GB,GC,GD,GE,GF,GG,GH,GI,GJ,GK,GL,GM,GN,GO,GP,GQ,GR,GS,GT,Nat.le_refl,Nat.reduceLeDiff,List.drop_zero,us_take,us_drop,is_take,is_drop,List.take_zero,gn,if_true,if_false,Nat.reduceEqDiff,Int.reduceEq,reduceCtorEq,Nat.succ_ne_self,Nat.reduceAdd,Nat.zero_add,Nat.add_zero,Nat.reduceMul,Nat.mul_one,Nat.one_mul,Nat.zero_mul,Nat.sub_zero,decide_true,decide_false,Bool.and_self,Bool.and_true,Bool.true_and,Bool.false_and,Bool.and_false,Bool.not_true,Bool.not_false,List.length_cons,List.length_nil,us_len,is_len,tb_len,dl_len,us_set,is_set,tb_set,Nat.not_lt_zero,List.nil_append,us_rep,is_rep, c1, c2, k1.eq, k2.eq, k3.eq, k4, k5, k6, k7, bs_len, natv_noHp]
  · have k6 : decide (128 ≤ y) = false := decide_eq_false h
    rw [hp, if_neg h]
    simp only [Qa,Qb,Qc,Qd,Qe,Qf,Qg,Qh,Qi,Qj,Qk,Ql,Qm,Qn,Qo,Qp,Qq,Qr,Qs,Qt,Qu,Qv,Qw,Qx,Qy,Qz,QA,QB,QC,QD,QE,QF,QG,QH,QI,QJ,QK,QL,QM,QN,QO,QP,QQ,QR,QS,QT,QU,QV,QW,QX,QY,QZ,Q0,Q1,Q2,Q3,Q4,Q5,Q6,Q7,Q8,Q9,Xa,Xb,Xc,Xd,Xe,Xf,Xg,Xh,Xi,Xj,Xk,Xl,Xm,Xn,Xo,Xp,Xq,Xr,Xs,Xt,Xu,Xv,Xw,Xx,Xy,Xz,XA,XB,XC,XD,XE,XF,XG,XH,XI,XJ,XK,XL,XM,XN,XO,XP,XQ,XR,XS,XT,XU,XV,XW,XX,XY,XZ,X0,X1,X2,X3,X4,X5,X6,X7,X8,X9,Ya,Yb,Yc,Yd,Ye,Yf,Yg,Yh,Yi,Yj,Yk,Yl,Ym,Yn,Yo,Yp,Yq,Yr,Ys,Yt,Yu,Yv,Yw,Yx,Yy,Yz,YA,YB,YC,YD,YE,YF,YG,YH,YI,YJ,YK,YL,YM,YN,YO,YP,YQ,YR,YS,YT,YU,YV,YW,YX,YY,YZ,Y0,Y1,Y2,Y3,Y4,Y5,Y6,Y7,Y8,Y9,Za,Zb,Zc,Zd,Ze,Zf,Zg,Zh,Zi,Zj,Zk,Zl,Zm,Zn,Zo,Zp,Zq,Zr,Zs,Zt,Zu,Zv,Zw,Zx,Zy,Zz,ZA,ZB,ZC,ZD,ZE,ZF,ZG,ZH,ZI,ZJ,ZK,ZL,ZM,ZN,ZO,ZP,ZQ,ZR,ZS,ZT,ZU,ZV,ZW,ZX,ZY,ZZ,Z0,Z1,Z2,Z3,Z4,Z5,Z6,Z7,Z8,Z9,Ja,Jb,Jc,Jd,Je,Jf,Jg,Jh,Ji,Jj,Jk,Jl,Jm,Jn,Jo,Jp,Jq,Jr,Js,Jt,Ju,Jv,Jw,Jx,Jy,Jz,JA,JB,JC,JD,JE,JF,JG,JH,JI,JJ,JK,JL,JM,JN,JO,JP,JQ,JR,JS,JT,JU,JV,JW,JX,JY,JZ,J0,J1,J2,J3,J4,J5,J6,J7,J8,J9,Ka,Kb,Kc,Kd,Ke,Kf,Kg,Kh,Ki,Kj,Kk,Kl,Km,Kn,Ko,Kp,Kq,Kr,Ks,Kt,Ku,Kv,Kw,Kx,Ky,Kz,KA,KB,KC,KD,KE,KF,KG,KH,KI,KJ,KK,KL,KM,KN,KO,KP,KQ,KR,KS,KT,KU,KV,KW,KX,KY,KZ,K0,K1,K2,K3,K4,K5,K6,K7,K8,K9,Ga,Gb,Gc,Gd,Ge,Gf,Gg,Gh,Gi,Gj,Gk,Gl,Gm,Gn,Gp,Gq,Gr,Gs,Gt,Gu,Gv,Gw,Gx,Gy,Gz,GA,GB,GC,GD,GE,GF,GG,GH,GI,GJ,GK,GL,GM,GN,GO,GP,GQ,GR,GS,GT,Nat.le_refl,Nat.reduceLeDiff,List.drop_zero,us_take,us_drop,is_take,is_drop,List.take_zero,gn,if_true,if_false,Nat.reduceEqDiff,Int.reduceEq,reduceCtorEq,Nat.succ_ne_self,Nat.reduceAdd,Nat.zero_add,Nat.add_zero,Nat.reduceMul,Nat.mul_one,Nat.one_mul,Nat.zero_mul,Nat.sub_zero,decide_true,decide_false,Bool.and_self,Bool.and_true,Bool.true_and,Bool.false_and,Bool.and_false,Bool.not_true,Bool.not_false,List.length_cons,List.length_nil,us_len,is_len,tb_len,dl_len,us_set,is_set,tb_set,Nat.not_lt_zero,List.nil_append,us_rep,is_rep, c1, c2, k1.eq, k2.eq, k3.eq, k4, k5, k6, bs_len, natv_noHp]

theorem pField_len (kind : Nat) (s : List Nat) : (pField kind s).length = s.length + (if s.length < 128 then 2 else 3) := by
  unfold pField; split <;> simp

theorem M18 : 2 ^ (64 * 18) = M * M := by rw [M64, ← Nat.pow_add]
theorem sig_lo (z : Nat) : part (us 64 (dl 64 18 z)) 0 (some 9) = some (natv (z % M)) := by
  have e : (us 64 (dl 64 18 z)).length = 18 := by rw [us_len, dl_len]
  simp only [part, e, natv]
  rw [if_pos (by omega), List.drop_zero, us_take, dl, tb_take (by omega : 9 ≤ 18)]
  rw [M64, dl_mod]; rfl
theorem sig_hi {z : Nat} : part (us 64 (dl 64 18 z)) 9 (some 9) = some (natv (z / M)) := by
  have e : (us 64 (dl 64 18 z)).length = 18 := by rw [us_len, dl_len]
  simp only [part, e, natv]
  rw [if_pos (by omega), us_drop, dl, tb_drop, us_take, tb_take (by omega)]
  congr 3
  refine tb_congr fun j hj => ?_
  rw [M64, Nat.div_div_eq_div_mul, ← Nat.pow_add, Nat.mul_add]

theorem r_Put {z : Nat} (hz : z < M * M) : Run T f_der_Put [widev z] [] = some (.s (pPut (z % M) (z / M)), []) := by
  rw [Run_at T _ (show T f_der_Put = some m_der_Put from rfl)]
  simp only [c_der_Put]
  have hM : 0 < M := Nat.two_pow_pos _
  have h1 : z % M < M := Nat.mod_lt _ hM
  have h2 : z / M < M := by rw [Nat.div_lt_iff_lt_mul hM]; exact hz
  have k1 := sig_lo z
  have k2 := sig_hi (z := z)
  obtain ⟨r, hr⟩ : ∃ r, r = z % M := ⟨_, rfl⟩
  obtain ⟨t, ht⟩ : ∃ t, t = z / M := ⟨_, rfl⟩
  rw [← hr] at h1 k1 ⊢
  rw [← ht] at h2 k2 ⊢
  have c1 := r_derNumber h1
  have c2 := r_derNumber h2
  have l1 := pNum_len h1
  have l2 := pNum_len h2
  have c3 := r_derField 2 (s := pNum r) (by omega)
  have c4 := r_derField 2 (s := pNum t) (by omega)
  have l3 := pField_len 2 (pNum r)
  have l4 := pField_len 2 (pNum t)
  rw [if_pos (by omega)] at l3 l4
  have k3 : binV .add (.s (pField 2 (pNum r))) (.s (pField 2 (pNum t))) = some (.s (pField 2 (pNum r) ++ pField 2 (pNum t))) := s_add _ _ (by omega)
  have c5 := r_derField 48 (s := pField 2 (pNum r) ++ pField 2 (pNum t)) (by rw [List.length_append]; omega)
  have e : pPut r t = pField 48 (pField 2 (pNum r) ++ pField 2 (pNum t)) := rfl
  rw [e]
  simp only [Qa,Qb,Qc,Qd,Qe,Qf,Qg,Qh,Qi,Qj,Qk,Ql,Qm,Qn,Qo,Qp,Qq,Qr,Qs,Qt,Qu,Qv,Qw,Qx,Qy,Qz,QA,QB,QC,QD,QE,QF,QG,QH,QI,QJ,QK,QL,QM,QN,QO,QP,QQ,QR,QS,QT,QU,QV,QW,QX,QY,QZ,Q0,Q1,Q2,Q3,Q4,Q5,Q6,Q7,Q8,Q9,Xa,Xb,Xc,Xd,Xe,Xf,Xg,Xh,Xi,Xj,Xk,Xl,Xm,Xn,Xo,Xp,Xq,Xr,Xs,Xt,Xu,Xv,Xw,Xx,Xy,Xz,XA,XB,XC,XD,XE,XF,XG,XH,XI,XJ,XK,XL,XM,XN,XO,XP,XQ,XR,XS,XT,XU,XV,XW,XX,XY,XZ,X0,X1,X2,X3,X4,X5,X6,X7,X8,X9,Ya,Yb,Yc,Yd,Ye,Yf,Yg,Yh,Yi,Yj,Yk,Yl,Ym,Yn,Yo,Yp,Yq,Yr,Ys,Yt,Yu,Yv,Yw,Yx,Yy,Yz,YA,YB,YC,YD,YE,YF,YG,YH,YI,YJ,YK,YL,YM,YN,YO,YP,YQ,YR,YS,YT,YU,YV,YW,YX,YY,YZ,Y0,Y1,Y2,Y3,Y4,Y5,Y6,Y7,Y8,Y9,Za,Zb,Zc,Zd,Ze,Zf,Zg,Zh,Zi,Zj,Zk,Zl,Zm,Zn,Zo,Zp,Zq,Zr,Zs,Zt,Zu,Zv,Zw,Zx,Zy,Zz,ZA,ZB,ZC,ZD,ZE,ZF,ZG,ZH,ZI,ZJ,ZK,ZL,ZM,ZN,ZO,ZP,ZQ,ZR,ZS,ZT,ZU,ZV,ZW,ZX,ZY,ZZ,Z0,Z1,Z2,Z3,Z4,Z5,Z6,Z7,Z8,Z9,Ja,Jb,Jc,Jd,Je,Jf,Jg,Jh,Ji,Jj,Jk,Jl,Jm,Jn,Jo,Jp,Jq,Jr,Js,Jt,Ju,Jv,Jw,Jx,Jy,Jz,JA,JB,JC,JD,JE,JF,JG,JH,JI,JJ,JK,JL,JM,JN,JO,JP,JQ,JR,JS,JT,JU,JV,JW,JX,JY,JZ,J0,J1,J2,J3,J4,J5,J6,J7,J8,J9,Ka,Kb,Kc,Kd,Ke,Kf,Kg,Kh,Ki,Kj,Kk,Kl,Km,Kn,Ko,Kp,Kq,Kr,Ks,Kt,Ku,Kv,Kw,Kx,Ky,Kz,KA,KB,KC,KD,KE,KF,KG,KH,KI,KJ,KK,KL,KM,KN,KO,KP,KQ,KR,KS,KT,KU,KV,KW,KX,KY,KZ,K0,K1,K2,K3,K4,K5,K6,K7,K8,K9,Ga,Gb,Gc,Gd,Ge,Gf,Gg,Gh,Gi,Gj,Gk,Gl,Gm,Gn,Gp,Gq,Gr,Gs,Gt,Gu,Gv,Gw,Gx,Gy,Gz,GA,GB,GC,GD,GE,GF,GG,GH,GI,GJ,GK,GL,GM,GN,GO,GP,GQ,GR,GS,GT,Nat.le_refl,Nat.reduceLeDiff,List.drop_zero,us_take,us_drop,is_take,is_drop,List.take_zero,gn,if_true,if_false,Nat.reduceEqDiff,Int.reduceEq,reduceCtorEq,Nat.succ_ne_self,Nat.reduceAdd,Nat.zero_add,Nat.add_zero,Nat.reduceMul,Nat.mul_one,Nat.one_mul,Nat.zero_mul,Nat.sub_zero,decide_true,decide_false,Bool.and_self,Bool.and_true,Bool.true_and,Bool.false_and,Bool.and_false,Bool.not_true,Bool.not_false,List.length_cons,List.length_nil,us_len,is_len,tb_len,dl_len,us_set,is_set,tb_set,Nat.not_lt_zero,List.nil_append,us_rep,is_rep, c1, c2, c3, c4, c5, k1, k2, k3, natv_noHp]

def gF (s : List Nat) : List Nat × Rd := rField 48 s false
def gA (s : List Nat) : Nat × Rd := rNumber (gF s).1 false
def gB (s : List Nat) : Nat × Rd := rNumber (gA s).2.1 (gA s).2.2
def pGet (s : List Nat) : Nat × Nat := if (gF s).2.2 || (gB s).2.2 || !(pPut (gA s).1 (gB s).1 == s) then (0, 2200) else ((gA s).1 + M * (gB s).1, 0)
theorem pGet_def (s : List Nat) : pGet s = if (gF s).2.2 || (gB s).2.2 || !(pPut (gA s).1 (gB s).1 == s) then (0, 2200) else ((gA s).1 + M * (gB s).1, 0) := rfl
theorem gF_def (s : List Nat) : gF s = rField 48 s false := rfl
theorem gA_def (s : List Nat) : gA s = rNumber (gF s).1 false := rfl
theorem gB_def (s : List Nat) : gB s = rNumber (gA s).2.1 (gA s).2.2 := rfl

theorem ov_lt {l : List Nat} (hl : By l) : ov l < 2 ^ (8 * l.length) := vb_lt (fun j hj => by
    have e : l.getD j 0 = l[j] := by simp [hj]
    rw [e]; exact hl _ (List.getElem_mem hj)) _ (Nat.le_refl _)
theorem cutZ_by {o : List Nat} (h : By o) : By (cutZ o) := by
  unfold cutZ
  split
  · exact fun x hx => h x (by simp at hx ⊢; right; exact hx)
  · exact h
theorem rNumber_by {s : List Nat} {b : Bool} (h : By s) : (rNumber s b).1 < M ∧ By (rNumber s b).2.1 ∧ (rNumber s b).2.1.length ≤ s.length := by
  obtain ⟨h1, h2, h3, h4⟩ := rField_by (b := b) (kind := 2) h
  have d1 : rNumber s b = if 72 < (cutZ (rField 2 s b).1).length then (0, (rField 2 s b).2.1, true) else (ov (cutZ (rField 2 s b).1), (rField 2 s b).2.1, (rField 2 s b).2.2) := rfl
  rw [d1]
  split
  · exact ⟨Nat.two_pow_pos _, h2, h3⟩
  · exact ⟨Nat.lt_of_lt_of_le (ov_lt (cutZ_by h1)) (Nat.pow_le_pow_right (by omega) (by omega)), h2, h3⟩

theorem sig_put1 {r : Nat} (hr : r < M) : splice (us 64 (dl 64 18 0)) 0 (us 64 (dl 64 9 r)) = us 64 (dl 64 18 r) := by
  have e : ∀ (l cs : List V) (o : Nat), cs.length = 9 → splice l o cs = l.take o ++ cs ++ l.drop (o + 9) := by
    intro l cs o h
    unfold splice
    split
    · simp at h
    · rw [h]
  rw [e _ _ _ (by rw [us_len, dl_len]), List.take_zero, List.nil_append, us_drop, us_app]
  congr 1
  rw [dl, dl, dl, tb_drop]
  apply List.ext_getElem
  · simp [tb]
  · intro i h1 h2
    have hi : i < 18 := by simpa [tb] using h2
    simp only [tb, List.getElem_map, List.getElem_range]
    by_cases h : i < 9
    · rw [List.getElem_append_left (by simpa using h)]
      simp
    · rw [List.getElem_append_right (by simp; omega)]
      simp only [List.getElem_map, List.getElem_range, Nat.zero_div, Nat.zero_mod]
      exact (word_zero (M64 ▸ hr) (by omega)).symm
theorem sig_put2 {r t : Nat} (hr : r < M) : splice (us 64 (dl 64 18 r)) 9 (us 64 (dl 64 9 t)) = us 64 (dl 64 18 (r + M * t)) := by
  have e : ∀ (l cs : List V) (o : Nat), cs.length = 9 → splice l o cs = l.take o ++ cs ++ l.drop (o + 9) := by
    intro l cs o h
    unfold splice
    split
    · simp at h
    · rw [h]
  have e9 : M = 2 ^ (64 * 9) := M64
  have hM0 : 0 < M := Nat.two_pow_pos _
  rw [e _ _ _ (by rw [us_len, dl_len]), us_drop, us_take, us_app, us_app]
  congr 1
  rw [dl, dl, dl, tb_drop, tb_take (by omega)]
  apply List.ext_getElem
  · simp [tb]
  · intro i h1 h2
    have hi : i < 18 := by simpa [tb] using h2
    have h0 : (tb (18 - (9 + 9)) fun j => r / 2 ^ (64 * (9 + 9 + j)) % 2 ^ 64) = [] := rfl
    simp only [h0, List.append_nil]
    simp only [tb, List.getElem_map, List.getElem_range]
    by_cases h : i < 9
    · rw [List.getElem_append_left (by simpa using h)]
      simp only [List.getElem_map, List.getElem_range]
      have e2 : M = 2 ^ (64 * i) * (2 ^ 64 * 2 ^ (64 * (8 - i))) := by rw [M64, ← Nat.pow_add, ← Nat.pow_add]; congr 1; omega
      rw [e2, Nat.mul_assoc, Nat.mul_assoc, Nat.add_mul_div_left _ _ (Nat.two_pow_pos _), Nat.add_mul_mod_self_left]
    · rw [List.getElem_append_right (by simp; omega)]
      simp only [List.getElem_map, List.getElem_range, List.length_map, List.length_range]
      have e2 : 64 * i = 64 * 9 + 64 * (i - 9) := by omega
      conv => rhs; rw [e2, Nat.pow_add, ← Nat.div_div_eq_div_mul, ← e9, Nat.add_mul_div_left r t hM0, Nat.div_eq_of_lt hr, Nat.zero_add]

end Mir
