/- Package nat: Shr, Shl, Add. Conditions: none. -/
import Derived.Test.YtphinknjjdfgeaaNatA
set_option linter.unusedVariables false
set_option linter.unusedSimpArgs false
set_option exponentiation.threshold 5000
set_option maxRecDepth 20000
namespace Mir

theorem join64 (y r : Nat) (hr : r ≤ 64) : (y % 2 ^ 64 / 2 ^ r ||| y / 2 ^ 64 % 2 ^ 64 * 2 ^ (64 - r) % 2 ^ 64) = y / 2 ^ r % 2 ^ 64 := by
  have e : (2:Nat) ^ 64 = 2 ^ r * 2 ^ (64 - r) := by rw [← Nat.pow_add]; congr 1; omega
  have e' : (2:Nat) ^ 64 = 2 ^ (64 - r) * 2 ^ r := by rw [← Nat.pow_add]; congr 1; omega
  have h1 : y % 2 ^ 64 / 2 ^ r = y / 2 ^ r % 2 ^ (64 - r) := by rw [e, Nat.mod_mul_right_div_self]
  have h2 : y / 2 ^ 64 % 2 ^ 64 * 2 ^ (64 - r) % 2 ^ 64 = 2 ^ (64 - r) * (y / 2 ^ 64 % 2 ^ r) := by
    generalize y / 2 ^ 64 = z
    conv => lhs; rw [e', Nat.mul_comm, Nat.mul_mod_mul_left]
    rw [Nat.mod_mul_left_mod]
  have h3 : y / 2 ^ r % 2 ^ 64 = 2 ^ (64 - r) * (y / 2 ^ 64 % 2 ^ r) + y / 2 ^ r % 2 ^ (64 - r) := by
    conv => lhs; rw [e', Nat.mod_mul, Nat.div_div_eq_div_mul, ← e]
    rw [Nat.add_comm]
  rw [h1, h2, h3, Nat.or_comm, Nat.two_pow_add_eq_or_of_lt (Nat.mod_lt _ (Nat.two_pow_pos _))]

theorem shr_split {x k q r : Nat} (hk : k = 64 * q + r) (i : Nat) : x / 2 ^ k / 2 ^ (64 * i) % 2 ^ 64 = x / 2 ^ (64 * (i + q)) / 2 ^ r % 2 ^ 64 := by
  subst hk
  rw [Nat.div_div_eq_div_mul, Nat.div_div_eq_div_mul, ← Nat.pow_add, ← Nat.pow_add, show 64 * q + r + 64 * i = 64 * (i + q) + r by omega]
theorem shr_word (x q r i : Nat) (hr : r ≤ 64) : (x / 2 ^ (64 * (i + q)) % 2 ^ 64 / 2 ^ r ||| x / 2 ^ (64 * (i + q + 1)) % 2 ^ 64 * 2 ^ (64 - r) % 2 ^ 64) = x / 2 ^ (64 * (i + q)) / 2 ^ r % 2 ^ 64 := by
  rw [show 64 * (i + q + 1) = 64 * (i + q) + 64 by omega, Nat.pow_add, ← Nat.div_div_eq_div_mul]
  exact join64 _ _ hr
theorem big_div {x n : Nat} (hx : x < M) (hn : 576 ≤ n) : x / 2 ^ n = 0 := Nat.div_eq_of_lt (Nat.lt_of_lt_of_le hx (by rw [M64]; exact Nat.pow_le_pow_right (by omega) (by omega)))

theorem shl_low {x k q r i : Nat} (hk : k = 64 * q + r) (hi : i < q) : x * 2 ^ k / 2 ^ (64 * i) % 2 ^ 64 = 0 := by
  subst hk
  have e : 64 * q + r = 64 * i + (64 + (64 * (q - i - 1) + r)) := by omega
  rw [e, Nat.pow_add, Nat.mul_comm x, Nat.mul_assoc, Nat.mul_div_cancel_left _ (Nat.two_pow_pos _), Nat.pow_add, Nat.mul_assoc, Nat.mul_mod_right]
theorem shl_first {x k q r : Nat} (hk : k = 64 * q + r) : x * 2 ^ k / 2 ^ (64 * q) % 2 ^ 64 = x / 2 ^ (64 * 0) % 2 ^ 64 * 2 ^ r % 2 ^ 64 := by
  subst hk
  rw [Nat.pow_add, Nat.mul_comm (2 ^ (64 * q)), ← Nat.mul_assoc, Nat.mul_div_cancel _ (Nat.two_pow_pos _), Nat.mul_zero, Nat.pow_zero, Nat.div_one, Nat.mod_mul_mod]
theorem shl_next {x k q r : Nat} (hk : k = 64 * q + r) (hr : r ≤ 64) (i : Nat) : (x / 2 ^ (64 * (i + 1)) % 2 ^ 64 * 2 ^ r % 2 ^ 64 ||| x / 2 ^ (64 * i) % 2 ^ 64 / 2 ^ (64 - r)) = x * 2 ^ k / 2 ^ (64 * (i + 1 + q)) % 2 ^ 64 := by
  have h := join64 (x / 2 ^ (64 * i)) (64 - r) (by omega)
  rw [Nat.div_div_eq_div_mul, ← Nat.pow_add, show 64 * i + 64 = 64 * (i + 1) by omega, show 64 - (64 - r) = r by omega] at h
  rw [Nat.or_comm, h]
  subst hk
  have e1 : (2:Nat) ^ (64 * q + r) = 2 ^ (64 * q) * 2 ^ r := Nat.pow_add ..
  have e2 : (2:Nat) ^ (64 * (i + 1 + q)) = 2 ^ (64 * q) * (2 ^ r * (2 ^ (64 * i) * 2 ^ (64 - r))) := by
    rw [← Nat.pow_add, ← Nat.pow_add, ← Nat.pow_add]; congr 1; omega
  rw [e1, e2, Nat.mul_left_comm, Nat.mul_div_mul_left _ _ (Nat.two_pow_pos _), Nat.mul_comm x, Nat.mul_div_mul_left _ _ (Nat.two_pow_pos _), Nat.div_div_eq_div_mul]

theorem toN (n : Nat) : ((n : Nat) : Int).toNat = n := by simp
theorem nonneg (n : Nat) : (0 ≤ ((n : Nat) : Int)) = True := by simp

theorem r_natShr {x k : Nat} (hx : x < M) (hk : k ≤ 576) : Run T f_nat_Shr [natv x, .i (k : Int)] [] = some (.tup [natv (x / 2 ^ k), .i 0], []) := by
  rw [Run_at T _ (show T f_nat_Shr = some m_nat_Shr from rfl)]
  simp only [c_nat_Shr, zero9]
  obtain ⟨q, hq⟩ : ∃ q, q = k / 64 := ⟨_, rfl⟩
  obtain ⟨r, hr⟩ : ∃ r, r = k % 64 := ⟨_, rfl⟩
  have g1 : decide ((k : Int) < 0) = false := by simp
  have g2 : decide (576 < (k : Int)) = false := by simp; omega
  have g3 : F (w64 (Int.tdiv (k : Int) 64)) ((q : Int)) := ⟨by rw [Int.tdiv_eq_ediv_of_nonneg (by omega)]; unfold w64; omega⟩
  have g4 : F (Int.tmod (k : Int) 64) ((r : Int)) := ⟨by rw [Int.tmod_eq_emod_of_nonneg (by omega)]; omega⟩
  have g5 : ((64 : Int) = 0) = False := by simp
  obtain ⟨n, hn⟩ : ∃ n, n = 9 - q := ⟨_, rfl⟩
  have g6 : F (w64 (9 - (q : Int))) ((n : Int)) := ⟨by unfold w64; omega⟩
  obtain ⟨w, hw⟩ : ∃ w : Nat → Nat, ∀ i, w i = x / 2 ^ (64 * i) % 2 ^ 64 := ⟨_, fun _ => rfl⟩
  obtain ⟨s, hs⟩ : ∃ s : Nat → Nat, ∀ i, s i = x / 2 ^ k / 2 ^ (64 * i) % 2 ^ 64 := ⟨_, fun _ => rfl⟩
  obtain ⟨u, hu⟩ : ∃ u, u = 64 - r := ⟨_, rfl⟩
  have hk' : k = 64 * q + r := by omega
  have hr64 : r ≤ 64 := by omega
  have e0 : ∀ i, s i = x / 2 ^ (64 * (i + q)) / 2 ^ r % 2 ^ 64 := fun i => by rw [hs]; exact shr_split hk' i
  have e1 : ∀ i, (w (i + q) / 2 ^ r ||| w (i + q + 1) * 2 ^ u % 2 ^ 64) = s i := fun i => by
    rw [e0, hw, hw, hu]; exact shr_word x q r i hr64
  have e2 : ∀ i, w (i + q) / 2 ^ r = s i ∨ i + q + 1 < 9 := fun i => by
    by_cases h : i + q + 1 < 9
    · exact .inr h
    · left
      have hz : w (i + q + 1) = 0 := by
        rw [hw, big_div hx (by omega), Nat.zero_mod]
      rw [← e1 i, hz]
      simp
  have e3 : ∀ i, n ≤ i → s i = 0 := fun i hi => by
    rw [e0, big_div hx (by omega), Nat.zero_div, Nat.zero_mod]
  have hl : dl 64 9 x = tb 9 w := tb_congr fun j hj => (hw j).symm
  have g7 : (0 ≤ (r : Int)) = True := by simp
  have g8 : (r : Int).toNat = r := by simp
  have g9 : F (min r 64) (r) := ⟨by omega⟩
  have g10 : F (w64 (64 - (r : Int))) ((u : Int)) := ⟨by unfold w64; omega⟩
  have g11 : (0 ≤ (u : Int)) = True := by simp
  have g12 : (u : Int).toNat = u := by simp
  have g13 : F (min u 64) (u) := ⟨by omega⟩
  have hp : ∀ i, i < 9 → part (us 64 (tb 9 w)) i none = some (.u 64 (w i)) := fun i hi => by simp only [part]; exact us_get (tb_get hi)
  have ho : ∀ (f : Nat → Nat) i, i < 9 → part (us 64 (tb 9 f)) i none = some (.u 64 (f i)) := fun f i hi => by simp only [part]; exact us_get (tb_get hi)
  simp only [natv, hl]
  simp only [Qa,Qb,Qc,Qd,Qe,Qf,Qg,Qh,Qi,Qj,Qk,Ql,Qm,Qn,Qo,Qp,Qq,Qr,Qs,Qt,Qu,Qv,Qw,Qx,Qy,Qz,QA,QB,QC,QD,QE,QF,QG,QH,QI,QJ,QK,QL,QM,QN,QO,QP,QQ,QR,QS,QT,QU,QV,QW,QX,QY,QZ,Q0,Q1,Q2,Q3,Q4,Q5,Q6,Q7,Q8,Q9,Xa,Xb,Xc,Xd,Xe,Xf,Xg,Xh,Xi,Xj,Xk,Xl,Xm,Xn,Xo,Xp,Xq,Xr,Xs,Xt,Xu,Xv,Xw,Xx,Xy,Xz,XA,XB,XC,XD,XE,XF,XG,XH,XI,XJ,XK,XL,XM,XN,XO,XP,XQ,XR,XS,XT,XU,XV,XW,XX,XY,XZ,X0,X1,X2,X3,X4,X5,X6,X7,X8,X9,Ya,Yb,Yc,Yd,Ye,Yf,Yg,Yh,Yi,Yj,Yk,Yl,Ym,Yn,Yo,Yp,Yq,Yr,Ys,Yt,Yu,Yv,Yw,Yx,Yy,Yz,YA,YB,YC,YD,YE,YF,YG,YH,YI,YJ,YK,YL,YM,YN,YO,YP,YQ,YR,YS,YT,YU,YV,YW,YX,YY,YZ,Y0,Y1,Y2,Y3,Y4,Y5,Y6,Y7,Y8,Y9,Za,Zb,Zc,Zd,Ze,Zf,Zg,Zh,Zi,Zj,Zk,Zl,Zm,Zn,Zo,Zp,Zq,Zr,Zs,Zt,Zu,Zv,Zw,Zx,Zy,Zz,ZA,ZB,ZC,ZD,ZE,ZF,ZG,ZH,ZI,ZJ,ZK,ZL,ZM,ZN,ZO,ZP,ZQ,ZR,ZS,ZT,ZU,ZV,ZW,ZX,ZY,ZZ,Z0,Z1,Z2,Z3,Z4,Z5,Z6,Z7,Z8,Z9,Ja,Jb,Jc,Jd,Je,Jf,Jg,Jh,Ji,Jj,Jk,Jl,Jm,Jn,Jo,Jp,Jq,Jr,Js,Jt,Ju,Jv,Jw,Jx,Jy,Jz,JA,JB,JC,JD,JE,JF,JG,JH,JI,JJ,JK,JL,JM,JN,JO,JP,JQ,JR,JS,JT,JU,JV,JW,JX,JY,JZ,J0,J1,J2,J3,J4,J5,J6,J7,J8,J9,Ka,Kb,Kc,Kd,Ke,Kf,Kg,Kh,Ki,Kj,Kk,Kl,Km,Kn,Ko,Kp,Kq,Kr,Ks,Kt,Ku,Kv,Kw,Kx,Ky,Kz,KA,KB,KC,KD,KE,KF,KG,KH,KI,KJ,KK,KL,KM,KN,KO,KP,KQ,KR,KS,KT,KU,KV,KW,KX,KY,KZ,K0,K1,K2,K3,K4,K5,K6,K7,K8,K9,Ga,Gb,Gc,Gd,Ge,Gf,Gg,Gh,Gi,Gj,Gk,Gl,Gm,Gn,Gp,Gq,Gr,Gs,Gt,Gu,Gv,Gw,Gx,Gy,Gz,GA,GB,GC,GD,GE,GF,GG,GH,GI,GJ,GK,GL,GM,GN,GO,GP,GQ,GR,GS,GT,Nat.le_refl,Nat.reduceLeDiff,List.drop_zero,us_take,us_drop,is_take,is_drop,List.take_zero,gn,if_true,if_false,Nat.reduceEqDiff,Int.reduceEq,reduceCtorEq,Nat.succ_ne_self,Nat.reduceAdd,Nat.zero_add,Nat.add_zero,Nat.reduceMul,Nat.mul_one,Nat.one_mul,Nat.zero_mul,Nat.sub_zero,decide_true,decide_false,Bool.and_self,Bool.and_true,Bool.true_and,Bool.false_and,Bool.and_false,Bool.not_true,Bool.not_false,List.length_cons,List.length_nil,us_len,is_len,tb_len,dl_len,us_set,is_set,tb_set,Nat.not_lt_zero,List.nil_append,us_rep,is_rep, g1, g2, g3.eq, g4.eq, g5, g6.eq]
  rw [loop_use T (fun i => ⟨[(2, .vr (us 64 (tb 9 w)) 0), (4, .loc (us 64 (dl 64 9 0))), (6, .loc (us 64 (tb 9 fun j => if j < i then s j else 0))), (7, .i (q : Int)), (8, .i (r : Int)), (22, .i (n : Int)), (23, .i (i : Int))], []⟩) n
    (.exit 0, ⟨[(4, .loc (us 64 (dl 64 9 0))), (6, .loc (us 64 (tb 9 fun j => if j < n then s j else 0)))], []⟩) ?h0 (by simp) ?hs ?hn]
  · have k1 : tb 9 (fun j => if j < n then s j else 0) = dl 64 9 (x / 2 ^ k) := tb_congr fun j hj => by
      by_cases h : j < n
      · rw [if_pos h, hs]
      · rw [if_neg h, ← e3 j (by omega), hs]
    have k2 := part_us (w := 64) (dl_len 64 9 (x / 2 ^ k))
    have k3 : splice (us 64 (dl 64 9 0)) 0 (us 64 (dl 64 9 (x / 2 ^ k))) = us 64 (dl 64 9 (x / 2 ^ k)) := sp_us (by rw [us_len, dl_len, dl_len])
    simp only [Qa,Qb,Qc,Qd,Qe,Qf,Qg,Qh,Qi,Qj,Qk,Ql,Qm,Qn,Qo,Qp,Qq,Qr,Qs,Qt,Qu,Qv,Qw,Qx,Qy,Qz,QA,QB,QC,QD,QE,QF,QG,QH,QI,QJ,QK,QL,QM,QN,QO,QP,QQ,QR,QS,QT,QU,QV,QW,QX,QY,QZ,Q0,Q1,Q2,Q3,Q4,Q5,Q6,Q7,Q8,Q9,Xa,Xb,Xc,Xd,Xe,Xf,Xg,Xh,Xi,Xj,Xk,Xl,Xm,Xn,Xo,Xp,Xq,Xr,Xs,Xt,Xu,Xv,Xw,Xx,Xy,Xz,XA,XB,XC,XD,XE,XF,XG,XH,XI,XJ,XK,XL,XM,XN,XO,XP,XQ,XR,XS,XT,XU,XV,XW,XX,XY,XZ,X0,X1,X2,X3,X4,X5,X6,X7,X8,X9,Ya,Yb,Yc,Yd,Ye,Yf,Yg,Yh,Yi,Yj,Yk,Yl,Ym,Yn,Yo,Yp,Yq,Yr,Ys,Yt,Yu,Yv,Yw,Yx,Yy,Yz,YA,YB,YC,YD,YE,YF,YG,YH,YI,YJ,YK,YL,YM,YN,YO,YP,YQ,YR,YS,YT,YU,YV,YW,YX,YY,YZ,Y0,Y1,Y2,Y3,Y4,Y5,Y6,Y7,Y8,Y9,Za,Zb,Zc,Zd,Ze,Zf,Zg,Zh,Zi,Zj,Zk,Zl,Zm,Zn,Zo,Zp,Zq,Zr,Zs,Zt,Zu,Zv,Zw,Zx,Zy,Zz,ZA,ZB,ZC,ZD,ZE,ZF,ZG,ZH,ZI,ZJ,ZK,ZL,ZM,ZN,ZO,ZP,ZQ,ZR,ZS,ZT,ZU,ZV,ZW,ZX,ZY,ZZ,Z0,Z1,Z2,Z3,Z4,Z5,Z6,Z7,Z8,Z9,Ja,Jb,Jc,Jd,Je,Jf,Jg,Jh,Ji,Jj,Jk,Jl,Jm,Jn,Jo,Jp,Jq,Jr,Js,Jt,Ju,Jv,Jw,Jx,Jy,Jz,JA,JB,JC,JD,JE,JF,JG,JH,JI,JJ,JK,JL,JM,JN,JO,JP,JQ,JR,JS,JT,JU,JV,JW,JX,JY,JZ,J0,J1,J2,J3,J4,J5,J6,J7,J8,J9,Ka,Kb,Kc,Kd,Ke,Kf,Kg,Kh,Ki,Kj,Kk,Kl,Km,Kn,Ko,Kp,Kq,Kr,Ks,Kt,Ku,Kv,Kw,Kx,Ky,Kz,KA,KB,KC,KD,KE,KF,KG,KH,KI,KJ,KK,KL,KM,KN,KO,KP,KQ,KR,KS,KT,KU,KV,KW,KX,KY,KZ,K0,K1,K2,K3,K4,K5,K6,K7,K8,K9,Ga,Gb,Gc,Gd,Ge,Gf,Gg,Gh,Gi,Gj,Gk,Gl,Gm,Gn,Gp,Gq,Gr,Gs,Gt,Gu,Gv,Gw,Gx,Gy,Gz,GA,GB,GC,GD,GE,GF,GG,GH,GI,GJ,GK,GL,GM,GN,GO,GP,GQ,GR,GS,GT,Nat.le_refl,Nat.reduceLeDiff,List.drop_zero,us_take,us_drop,is_take,is_drop,List.take_zero,gn,if_true,if_false,Nat.reduceEqDiff,Int.reduceEq,reduceCtorEq,Nat.succ_ne_self,Nat.reduceAdd,Nat.zero_add,Nat.add_zero,Nat.reduceMul,Nat.mul_one,Nat.one_mul,Nat.zero_mul,Nat.sub_zero,decide_true,decide_false,Bool.and_self,Bool.and_true,Bool.true_and,Bool.false_and,Bool.and_false,Bool.not_true,Bool.not_false,List.length_cons,List.length_nil,us_len,is_len,tb_len,dl_len,us_set,is_set,tb_set,Nat.not_lt_zero,List.nil_append,us_rep,is_rep, k1, k2, k3]
  · rfl
  · intro i hi
    obtain ⟨j, hj⟩ : ∃ j, j = i + q := ⟨_, rfl⟩
    obtain ⟨j1, hj1⟩ : ∃ j1, j1 = j + 1 := ⟨_, rfl⟩
    obtain ⟨i1, hi1⟩ : ∃ i1, i1 = i + 1 := ⟨_, rfl⟩
    have k1 : decide ((i : Int) < (n : Int)) = true := by simp; omega
    have k2 : F (w64 ((i : Int) + (q : Int))) ((j : Int)) := ⟨by unfold w64; omega⟩
    have k3 : F (w64 ((j : Int) + 1)) ((j1 : Int)) := ⟨by unfold w64; omega⟩
    have k4 : F (w64 ((i : Int) + 1)) ((i1 : Int)) := ⟨by unfold w64; omega⟩
    have k5 := ixOf_nat (show j < 9 by omega)
    have k6 := ixOf_nat (show i < 9 by omega)
    have k7 := hp j (by omega)
    have k8 : (i + 1 ≤ 9) = True := by simp; omega
    have hw1 := e1 i
    rw [← hj, ← hj1] at hw1
    have h2 := e2 i
    rw [← hj, ← hj1] at h2
    have k9 : tb 9 (fun j => if j = i then s i else if j < i then s j else 0) = tb 9 (fun j => if j < i1 then s j else 0) := tb_congr fun j hj => by
      by_cases h : j = i
      · rw [if_pos h, if_pos (by omega), h]
      · rw [if_neg h]
        by_cases h2 : j < i
        · rw [if_pos h2, if_pos (by omega)]
        · rw [if_neg h2, if_neg (by omega)]
    rw [← hi1]
    obtain ⟨wj, hwj⟩ : ∃ y, w j = y := ⟨_, rfl⟩
    obtain ⟨wj1, hwj1⟩ : ∃ y, w j1 = y := ⟨_, rfl⟩
    rw [hwj, hwj1] at hw1
    rw [hwj] at h2
    rw [hwj] at k7
    by_cases h : j1 < 9
    · have k10 : decide ((j1 : Int) < 9) = true := by simp; omega
      have k11 := hp j1 h
      rw [hwj1] at k11
      have k12 := ixOf_nat h
      have k13 := ho (fun j => if j = i then wj / 2 ^ r else if j < i then s j else 0) i (by omega)
      simp only [if_true] at k13
      have k14 : tb 9 (fun j => if j = i then s i else if j = i then wj / 2 ^ r else if j < i then s j else 0) = tb 9 (fun j => if j < i1 then s j else 0) := by
        rw [← k9]; exact tb_congr fun j hj => by by_cases h : j = i <;> simp [h]
      simp only [Qa,Qb,Qc,Qd,Qe,Qf,Qg,Qh,Qi,Qj,Qk,Ql,Qm,Qn,Qo,Qp,Qq,Qr,Qs,Qt,Qu,Qv,Qw,Qx,Qy,Qz,QA,QB,QC,QD,QE,QF,QG,QH,QI,QJ,QK,QL,QM,QN,QO,QP,QQ,QR,QS,QT,QU,QV,QW,QX,QY,QZ,Q0,Q1,Q2,Q3,Q4,Q5,Q6,Q7,Q8,Q9,Xa,Xb,Xc,Xd,Xe,Xf,Xg,Xh,Xi,Xj,Xk,Xl,Xm,Xn,Xo,Xp,Xq,Xr,Xs,Xt,Xu,Xv,Xw,Xx,Xy,Xz,XA,XB,XC,XD,XE,XF,XG,XH,XI,XJ,XK,XL,XM,XN,XO,XP,XQ,XR,XS,XT,XU,XV,XW,XX,XY,XZ,X0,X1,X2,X3,X4,X5,X6,X7,X8,X9,Ya,Yb,Yc,Yd,Ye,Yf,Yg,Yh,Yi,Yj,Yk,Yl,Ym,Yn,Yo,Yp,Yq,Yr,Ys,Yt,Yu,Yv,Yw,Yx,Yy,Yz,YA,YB,YC,YD,YE,YF,YG,YH,YI,YJ,YK,YL,YM,YN,YO,YP,YQ,YR,YS,YT,YU,YV,YW,YX,YY,YZ,Y0,Y1,Y2,Y3,Y4,Y5,Y6,Y7,Y8,Y9,Za,Zb,Zc,Zd,Ze,Zf,Zg,Zh,Zi,Zj,Zk,Zl,Zm,Zn,Zo,Zp,Zq,Zr,Zs,Zt,Zu,Zv,Zw,Zx,Zy,Zz,ZA,ZB,ZC,ZD,ZE,ZF,ZG,ZH,ZI,ZJ,ZK,ZL,ZM,ZN,ZO,ZP,ZQ,ZR,ZS,ZT,ZU,ZV,ZW,ZX,ZY,ZZ,Z0,Z1,Z2,Z3,Z4,Z5,Z6,Z7,Z8,Z9,Ja,Jb,Jc,Jd,Je,Jf,Jg,Jh,Ji,Jj,Jk,Jl,Jm,Jn,Jo,Jp,Jq,Jr,Js,Jt,Ju,Jv,Jw,Jx,Jy,Jz,JA,JB,JC,JD,JE,JF,JG,JH,JI,JJ,JK,JL,JM,JN,JO,JP,JQ,JR,JS,JT,JU,JV,JW,JX,JY,JZ,J0,J1,J2,J3,J4,J5,J6,J7,J8,J9,Ka,Kb,Kc,Kd,Ke,Kf,Kg,Kh,Ki,Kj,Kk,Kl,Km,Kn,Ko,Kp,Kq,Kr,Ks,Kt,Ku,Kv,Kw,Kx,Ky,Kz,KA,KB,KC,KD,KE,KF,KG,KH,KI,KJ,KK,KL,KM,KN,KO,KP,KQ,KR,KS,KT,KU,KV,KW,KX,KY,KZ,K0,K1,K2,K3,K4,K5,K6,K7,K8,K9,Ga,Gb,Gc,Gd,Ge,Gf,Gg,Gh,Gi,Gj,Gk,Gl,Gm,Gn,Gp,Gq,Gr,Gs,Gt,Gu,Gv,Gw,Gx,Gy,Gz,GA,GB,GC,GD,GE,GF,GG,GH,GI,GJ,GK,GL,GM,GN,GO,GP,GQ,GR,GS,GT,Nat.le_refl,Nat.reduceLeDiff,List.drop_zero,us_take,us_drop,is_take,is_drop,List.take_zero,gn,if_true,if_false,Nat.reduceEqDiff,Int.reduceEq,reduceCtorEq,Nat.succ_ne_self,Nat.reduceAdd,Nat.zero_add,Nat.add_zero,Nat.reduceMul,Nat.mul_one,Nat.one_mul,Nat.zero_mul,Nat.sub_zero,decide_true,decide_false,Bool.and_self,Bool.and_true,Bool.true_and,Bool.false_and,Bool.and_false,Bool.not_true,Bool.not_false,List.length_cons,List.length_nil,us_len,is_len,tb_len,dl_len,us_set,is_set,tb_set,Nat.not_lt_zero,List.nil_append,us_rep,is_rep, k1, k2.eq, k3.eq, k4.eq, k5, k6, k7, k8, k9, k10, k11, k12, k13, k14, g7, g8, g9.eq, g10.eq, g11, g12, g13.eq, hw1]
    · have k10 : decide ((j1 : Int) < 9) = false := by simp; omega
      have k11 : wj / 2 ^ r = s i := h2.resolve_right h
      simp only [Qa,Qb,Qc,Qd,Qe,Qf,Qg,Qh,Qi,Qj,Qk,Ql,Qm,Qn,Qo,Qp,Qq,Qr,Qs,Qt,Qu,Qv,Qw,Qx,Qy,Qz,QA,QB,QC,QD,QE,QF,QG,QH,QI,QJ,QK,QL,QM,QN,QO,QP,QQ,QR,QS,QT,QU,QV,QW,QX,QY,QZ,Q0,Q1,Q2,Q3,Q4,Q5,Q6,Q7,Q8,Q9,Xa,Xb,Xc,Xd,Xe,Xf,Xg,Xh,Xi,Xj,Xk,Xl,Xm,Xn,Xo,Xp,Xq,Xr,Xs,Xt,Xu,Xv,Xw,Xx,Xy,Xz,XA,XB,XC,XD,XE,XF,XG,XH,XI,XJ,XK,XL,XM,XN,XO,XP,XQ,XR,XS,XT,XU,XV,XW,XX,XY,XZ,X0,X1,X2,X3,X4,X5,X6,X7,X8,X9,Ya,Yb,Yc,Yd,Ye,Yf,Yg,Yh,Yi,Yj,Yk,Yl,Ym,Yn,Yo,Yp,Yq,Yr,Ys,Yt,Yu,Yv,Yw,Yx,Yy,Yz,YA,YB,YC,YD,YE,YF,YG,YH,YI,YJ,YK,YL,YM,YN,YO,YP,YQ,YR,YS,YT,YU,YV,YW,YX,YY,YZ,Y0,Y1,Y2,Y3,Y4,Y5,Y6,Y7,Y8,Y9,Za,Zb,Zc,Zd,Ze,Zf,Zg,Zh,Zi,Zj,Zk,Zl,Zm,Zn,Zo,Zp,Zq,Zr,Zs,Zt,Zu,Zv,Zw,Zx,Zy,Zz,ZA,ZB,ZC,ZD,ZE,ZF,ZG,ZH,ZI,ZJ,ZK,ZL,ZM,ZN,ZO,ZP,ZQ,ZR,ZS,ZT,ZU,ZV,ZW,ZX,ZY,ZZ,Z0,Z1,Z2,Z3,Z4,Z5,Z6,Z7,Z8,Z9,Ja,Jb,Jc,Jd,Je,Jf,Jg,Jh,Ji,Jj,Jk,Jl,Jm,Jn,Jo,Jp,Jq,Jr,Js,Jt,Ju,Jv,Jw,Jx,Jy,Jz,JA,JB,JC,JD,JE,JF,JG,JH,JI,JJ,JK,JL,JM,JN,JO,JP,JQ,JR,JS,JT,JU,JV,JW,JX,JY,JZ,J0,J1,J2,J3,J4,J5,J6,J7,J8,J9,Ka,Kb,Kc,Kd,Ke,Kf,Kg,Kh,Ki,Kj,Kk,Kl,Km,Kn,Ko,Kp,Kq,Kr,Ks,Kt,Ku,Kv,Kw,Kx,Ky,Kz,KA,KB,KC,KD,KE,KF,KG,KH,KI,KJ,KK,KL,KM,KN,KO,KP,KQ,KR,KS,KT,KU,KV,KW,KX,KY,KZ,K0,K1,K2,K3,K4,K5,K6,K7,K8,K9,Ga,Gb,Gc,Gd,Ge,Gf,Gg,Gh,Gi,Gj,Gk,Gl,Gm,Gn,Gp,Gq,Gr,Gs,Gt,Gu,Gv,Gw,Gx,Gy,Gz,GA,GB,GC,GD,GE,GF,GG,GH,GI,GJ,GK,GL,GM,GN,GO,GP,GQ,GR,GS,GT,Nat.le_refl,Nat.reduceLeDiff,List.drop_zero,us_take,us_drop,is_take,is_drop,List.take_zero,gn,if_true,if_false,Nat.reduceEqDiff,Int.reduceEq,reduceCtorEq,Nat.succ_ne_self,Nat.reduceAdd,Nat.zero_add,Nat.add_zero,Nat.reduceMul,Nat.mul_one,Nat.one_mul,Nat.zero_mul,Nat.sub_zero,decide_true,decide_false,Bool.and_self,Bool.and_true,Bool.true_and,Bool.false_and,Bool.and_false,Bool.not_true,Bool.not_false,List.length_cons,List.length_nil,us_len,is_len,tb_len,dl_len,us_set,is_set,tb_set,Nat.not_lt_zero,List.nil_append,us_rep,is_rep, k1, k2.eq, k3.eq, k4.eq, k5, k6, k7, k8, k9, k10, k11, g7, g8, g9.eq]
  · have k1 : decide ((n : Int) < (n : Int)) = false := by simp
    simp only [Qa,Qb,Qc,Qd,Qe,Qf,Qg,Qh,Qi,Qj,Qk,Ql,Qm,Qn,Qo,Qp,Qq,Qr,Qs,Qt,Qu,Qv,Qw,Qx,Qy,Qz,QA,QB,QC,QD,QE,QF,QG,QH,QI,QJ,QK,QL,QM,QN,QO,QP,QQ,QR,QS,QT,QU,QV,QW,QX,QY,QZ,Q0,Q1,Q2,Q3,Q4,Q5,Q6,Q7,Q8,Q9,Xa,Xb,Xc,Xd,Xe,Xf,Xg,Xh,Xi,Xj,Xk,Xl,Xm,Xn,Xo,Xp,Xq,Xr,Xs,Xt,Xu,Xv,Xw,Xx,Xy,Xz,XA,XB,XC,XD,XE,XF,XG,XH,XI,XJ,XK,XL,XM,XN,XO,XP,XQ,XR,XS,XT,XU,XV,XW,XX,XY,XZ,X0,X1,X2,X3,X4,X5,X6,X7,X8,X9,Ya,Yb,Yc,Yd,Ye,Yf,Yg,Yh,Yi,Yj,Yk,Yl,Ym,Yn,Yo,Yp,Yq,Yr,Ys,Yt,Yu,Yv,Yw,Yx,Yy,Yz,YA,YB,YC,YD,YE,YF,YG,YH,YI,YJ,YK,YL,YM,YN,YO,YP,YQ,YR,YS,YT,YU,YV,YW,YX,YY,YZ,Y0,Y1,Y2,Y3,Y4,Y5,Y6,Y7,Y8,Y9,Za,Zb,Zc,Zd,Ze,Zf,Zg,Zh,Zi,Zj,Zk,Zl,Zm,Zn,Zo,Zp,Zq,Zr,Zs,Zt,Zu,Zv,Zw,Zx,Zy,Zz,ZA,ZB,ZC,ZD,ZE,ZF,ZG,ZH,ZI,ZJ,ZK,ZL,ZM,ZN,ZO,ZP,ZQ,ZR,ZS,ZT,ZU,ZV,ZW,ZX,ZY,ZZ,Z0,Z1,Z2,Z3,Z4,Z5,Z6,Z7,Z8,Z9,Ja,Jb,Jc,Jd,Je,Jf,Jg,Jh,Ji,Jj,Jk,Jl,Jm,Jn,Jo,Jp,Jq,Jr,Js,Jt,Ju,Jv,Jw,Jx,Jy,Jz,JA,JB,JC,JD,JE,JF,JG,JH,JI,JJ,JK,JL,JM,JN,JO,JP,JQ,JR,JS,JT,JU,JV,JW,JX,JY,JZ,J0,J1,J2,J3,J4,J5,J6,J7,J8,J9,Ka,Kb,Kc,Kd,Ke,Kf,Kg,Kh,Ki,Kj,Kk,Kl,Km,Kn,Ko,Kp,Kq,Kr,Ks,Kt,Ku,Kv,Kw,Kx,Ky,Kz,KA,KB,KC,KD,KE,KF,KG,KH,KI,KJ,KK,KL,KM,KN,KO,KP,KQ,KR,KS,KT,KU,KV,KW,KX,KY,KZ,K0,K1,K2,K3,K4,K5,K6,K7,K8,K9,Ga,Gb,Gc,Gd,Ge,Gf,Gg,Gh,Gi,Gj,Gk,Gl,Gm,Gn,Gp,Gq,Gr,Gs,Gt,Gu,Gv,Gw,Gx,Gy,Gz,GA,GB,GC,GD,GE,GF,GG,GH,GI,GJ,GK,GL,GM,GN,GO,GP,GQ,GR,GS,GT,Nat.le_refl,Nat.reduceLeDiff,List.drop_zero,us_take,us_drop,is_take,is_drop,List.take_zero,gn,if_true,if_false,Nat.reduceEqDiff,Int.reduceEq,reduceCtorEq,Nat.succ_ne_self,Nat.reduceAdd,Nat.zero_add,Nat.add_zero,Nat.reduceMul,Nat.mul_one,Nat.one_mul,Nat.zero_mul,Nat.sub_zero,decide_true,decide_false,Bool.and_self,Bool.and_true,Bool.true_and,Bool.false_and,Bool.and_false,Bool.not_true,Bool.not_false,List.length_cons,List.length_nil,us_len,is_len,tb_len,dl_len,us_set,is_set,tb_set,Nat.not_lt_zero,List.nil_append,us_rep,is_rep, k1]

theorem r_natShl {x k : Nat} (hx : x < M) (hk : k ≤ 576) : Run T f_nat_Shl [natv x, .i (k : Int)] [] = some (.tup [natv (x * 2 ^ k % M), .i 0], []) := by
  rw [Run_at T _ (show T f_nat_Shl = some m_nat_Shl from rfl)]
  simp only [c_nat_Shl, zero9]
  obtain ⟨q, hq⟩ : ∃ q, q = k / 64 := ⟨_, rfl⟩
  obtain ⟨r, hr⟩ : ∃ r, r = k % 64 := ⟨_, rfl⟩
  obtain ⟨u, hu⟩ : ∃ u, u = 64 - r := ⟨_, rfl⟩
  obtain ⟨n, hn⟩ : ∃ n, n = 9 - q := ⟨_, rfl⟩
  have hk' : k = 64 * q + r := by omega
  have hr64 : r ≤ 64 := by omega
  have hq9 : q ≤ 9 := by omega
  have g1 : decide ((k : Int) < 0) = false := by simp
  have g2 : decide (576 < (k : Int)) = false := by simp; omega
  have g3 : F (w64 (Int.tdiv (k : Int) 64)) (q : Int) := ⟨by rw [Int.tdiv_eq_ediv_of_nonneg (by omega)]; unfold w64; omega⟩
  have g4 : F (Int.tmod (k : Int) 64) (r : Int) := ⟨by rw [Int.tmod_eq_emod_of_nonneg (by omega)]; omega⟩
  have g9 : F (min r 64) r := ⟨by omega⟩
  have g10 : F (w64 (64 - (r : Int))) (u : Int) := ⟨by unfold w64; omega⟩
  have g13 : F (min u 64) u := ⟨by omega⟩
  obtain ⟨w, hw⟩ : ∃ w : Nat → Nat, ∀ i, w i = x / 2 ^ (64 * i) % 2 ^ 64 := ⟨_, fun _ => rfl⟩
  obtain ⟨s, hs⟩ : ∃ s : Nat → Nat, ∀ i, s i = x * 2 ^ k / 2 ^ (64 * i) % 2 ^ 64 := ⟨_, fun _ => rfl⟩
  have e0 : ∀ i, i < q → s i = 0 := fun i hi => by rw [hs]; exact shl_low hk' hi
  have e1 : s q = w 0 * 2 ^ r % 2 ^ 64 := by rw [hs, hw]; exact shl_first hk'
  have e2 : ∀ i, (w (i + 1) * 2 ^ r % 2 ^ 64 ||| w i / 2 ^ u) = s (i + 1 + q) := fun i => by
    rw [hs, hw, hw, hu]; exact shl_next hk' hr64 i
  have hl : dl 64 9 x = tb 9 w := tb_congr fun j hj => (hw j).symm
  have hp : ∀ i, i < 9 → part (us 64 (tb 9 w)) i none = some (.u 64 (w i)) := fun i hi => by simp only [part]; exact us_get (tb_get hi)
  have ho : ∀ (f : Nat → Nat) i, i < 9 → part (us 64 (tb 9 f)) i none = some (.u 64 (f i)) := fun f i hi => by simp only [part]; exact us_get (tb_get hi)
  simp only [natv, hl]
  simp only [Qa,Qb,Qc,Qd,Qe,Qf,Qg,Qh,Qi,Qj,Qk,Ql,Qm,Qn,Qo,Qp,Qq,Qr,Qs,Qt,Qu,Qv,Qw,Qx,Qy,Qz,QA,QB,QC,QD,QE,QF,QG,QH,QI,QJ,QK,QL,QM,QN,QO,QP,QQ,QR,QS,QT,QU,QV,QW,QX,QY,QZ,Q0,Q1,Q2,Q3,Q4,Q5,Q6,Q7,Q8,Q9,Xa,Xb,Xc,Xd,Xe,Xf,Xg,Xh,Xi,Xj,Xk,Xl,Xm,Xn,Xo,Xp,Xq,Xr,Xs,Xt,Xu,Xv,Xw,Xx,Xy,Xz,XA,XB,XC,XD,XE,XF,XG,XH,XI,XJ,XK,XL,XM,XN,XO,XP,XQ,XR,XS,XT,XU,XV,XW,XX,XY,XZ,X0,X1,X2,X3,X4,X5,X6,X7,X8,X9,Ya,Yb,Yc,Yd,Ye,Yf,Yg,Yh,Yi,Yj,Yk,Yl,Ym,Yn,Yo,Yp,Yq,Yr,Ys,Yt,Yu,Yv,Yw,Yx,Yy,Yz,YA,YB,YC,YD,YE,YF,YG,YH,YI,YJ,YK,YL,YM,YN,YO,YP,YQ,YR,YS,YT,YU,YV,YW,YX,YY,YZ,Y0,Y1,Y2,Y3,Y4,Y5,Y6,Y7,Y8,Y9,Za,Zb,Zc,Zd,Ze,Zf,Zg,Zh,Zi,Zj,Zk,Zl,Zm,Zn,Zo,Zp,Zq,Zr,Zs,Zt,Zu,Zv,Zw,Zx,Zy,Zz,ZA,ZB,ZC,ZD,ZE,ZF,ZG,ZH,ZI,ZJ,ZK,ZL,ZM,ZN,ZO,ZP,ZQ,ZR,ZS,ZT,ZU,ZV,ZW,ZX,ZY,ZZ,Z0,Z1,Z2,Z3,Z4,Z5,Z6,Z7,Z8,Z9,Ja,Jb,Jc,Jd,Je,Jf,Jg,Jh,Ji,Jj,Jk,Jl,Jm,Jn,Jo,Jp,Jq,Jr,Js,Jt,Ju,Jv,Jw,Jx,Jy,Jz,JA,JB,JC,JD,JE,JF,JG,JH,JI,JJ,JK,JL,JM,JN,JO,JP,JQ,JR,JS,JT,JU,JV,JW,JX,JY,JZ,J0,J1,J2,J3,J4,J5,J6,J7,J8,J9,Ka,Kb,Kc,Kd,Ke,Kf,Kg,Kh,Ki,Kj,Kk,Kl,Km,Kn,Ko,Kp,Kq,Kr,Ks,Kt,Ku,Kv,Kw,Kx,Ky,Kz,KA,KB,KC,KD,KE,KF,KG,KH,KI,KJ,KK,KL,KM,KN,KO,KP,KQ,KR,KS,KT,KU,KV,KW,KX,KY,KZ,K0,K1,K2,K3,K4,K5,K6,K7,K8,K9,Ga,Gb,Gc,Gd,Ge,Gf,Gg,Gh,Gi,Gj,Gk,Gl,Gm,Gn,Gp,Gq,Gr,Gs,Gt,Gu,Gv,Gw,Gx,Gy,Gz,GA,GB,GC,GD,GE,GF,GG,GH,GI,GJ,GK,GL,GM,GN,GO,GP,GQ,GR,GS,GT,Nat.le_refl,Nat.reduceLeDiff,List.drop_zero,us_take,us_drop,is_take,is_drop,List.take_zero,gn,if_true,if_false,Nat.reduceEqDiff,Int.reduceEq,reduceCtorEq,Nat.succ_ne_self,Nat.reduceAdd,Nat.zero_add,Nat.add_zero,Nat.reduceMul,Nat.mul_one,Nat.one_mul,Nat.zero_mul,Nat.sub_zero,decide_true,decide_false,Bool.and_self,Bool.and_true,Bool.true_and,Bool.false_and,Bool.and_false,Bool.not_true,Bool.not_false,List.length_cons,List.length_nil,us_len,is_len,tb_len,dl_len,us_set,is_set,tb_set,Nat.not_lt_zero,List.nil_append,us_rep,is_rep, g1, g2, g3.eq, g4.eq]
  rw [loop_use T (fun i => ⟨[(2, .vr (us 64 (tb 9 w)) 0), (4, .loc (us 64 (dl 64 9 0))), (6, .loc (us 64 (tb 9 fun j => if j < q + i then s j else 0))), (7, .i (q : Int)), (8, .i (r : Int)), (9, .i ((q + i : Nat) : Int))], []⟩) n
    (.exit 0, ⟨[(4, .loc (us 64 (dl 64 9 0))), (6, .loc (us 64 (tb 9 fun j => if j < q + n then s j else 0)))], []⟩) ?h0 (by simp) ?hs ?hn]
  · have k1 : tb 9 (fun j => if j < q + n then s j else 0) = dl 64 9 (x * 2 ^ k % M) := by
      rw [M64, dl_mod]
      exact tb_congr fun j hj => by
        rw [if_pos (by omega), hs]
    have k2 := part_us (w := 64) (dl_len 64 9 (x * 2 ^ k % M))
    have k3 : splice (us 64 (dl 64 9 0)) 0 (us 64 (dl 64 9 (x * 2 ^ k % M))) = us 64 (dl 64 9 (x * 2 ^ k % M)) := sp_us (by rw [us_len, dl_len, dl_len])
    simp only [Qa,Qb,Qc,Qd,Qe,Qf,Qg,Qh,Qi,Qj,Qk,Ql,Qm,Qn,Qo,Qp,Qq,Qr,Qs,Qt,Qu,Qv,Qw,Qx,Qy,Qz,QA,QB,QC,QD,QE,QF,QG,QH,QI,QJ,QK,QL,QM,QN,QO,QP,QQ,QR,QS,QT,QU,QV,QW,QX,QY,QZ,Q0,Q1,Q2,Q3,Q4,Q5,Q6,Q7,Q8,Q9,Xa,Xb,Xc,Xd,Xe,Xf,Xg,Xh,Xi,Xj,Xk,Xl,Xm,Xn,Xo,Xp,Xq,Xr,Xs,Xt,Xu,Xv,Xw,Xx,Xy,Xz,XA,XB,XC,XD,XE,XF,XG,XH,XI,XJ,XK,XL,XM,XN,XO,XP,XQ,XR,XS,XT,XU,XV,XW,XX,XY,XZ,X0,X1,X2,X3,X4,X5,X6,X7,X8,X9,Ya,Yb,Yc,Yd,Ye,Yf,Yg,Yh,Yi,Yj,Yk,Yl,Ym,Yn,Yo,Yp,Yq,Yr,Ys,Yt,Yu,Yv,Yw,Yx,Yy,Yz,YA,YB,YC,YD,YE,YF,YG,YH,YI,YJ,YK,YL,YM,YN,YO,YP,YQ,YR,YS,YT,YU,YV,YW,YX,YY,YZ,Y0,Y1,Y2,Y3,Y4,Y5,Y6,Y7,Y8,Y9,Za,Zb,Zc,Zd,Ze,Zf,Zg,Zh,Zi,Zj,Zk,Zl,Zm,Zn,Zo,Zp,Zq,Zr,Zs,Zt,Zu,Zv,Zw,Zx,Zy,Zz,ZA,ZB,ZC,ZD,ZE,ZF,ZG,ZH,ZI,ZJ,ZK,ZL,ZM,ZN,ZO,ZP,ZQ,ZR,ZS,ZT,ZU,ZV,ZW,ZX,ZY,ZZ,Z0,Z1,Z2,Z3,Z4,Z5,Z6,Z7,Z8,Z9,Ja,Jb,Jc,Jd,Je,Jf,Jg,Jh,Ji,Jj,Jk,Jl,Jm,Jn,Jo,Jp,Jq,Jr,Js,Jt,Ju,Jv,Jw,Jx,Jy,Jz,JA,JB,JC,JD,JE,JF,JG,JH,JI,JJ,JK,JL,JM,JN,JO,JP,JQ,JR,JS,JT,JU,JV,JW,JX,JY,JZ,J0,J1,J2,J3,J4,J5,J6,J7,J8,J9,Ka,Kb,Kc,Kd,Ke,Kf,Kg,Kh,Ki,Kj,Kk,Kl,Km,Kn,Ko,Kp,Kq,Kr,Ks,Kt,Ku,Kv,Kw,Kx,Ky,Kz,KA,KB,KC,KD,KE,KF,KG,KH,KI,KJ,KK,KL,KM,KN,KO,KP,KQ,KR,KS,KT,KU,KV,KW,KX,KY,KZ,K0,K1,K2,K3,K4,K5,K6,K7,K8,K9,Ga,Gb,Gc,Gd,Ge,Gf,Gg,Gh,Gi,Gj,Gk,Gl,Gm,Gn,Gp,Gq,Gr,Gs,Gt,Gu,Gv,Gw,Gx,Gy,Gz,GA,GB,GC,GD,GE,GF,GG,GH,GI,GJ,GK,GL,GM,GN,GO,GP,GQ,GR,GS,GT,Nat.le_refl,Nat.reduceLeDiff,List.drop_zero,us_take,us_drop,is_take,is_drop,List.take_zero,gn,if_true,if_false,Nat.reduceEqDiff,Int.reduceEq,reduceCtorEq,Nat.succ_ne_self,Nat.reduceAdd,Nat.zero_add,Nat.add_zero,Nat.reduceMul,Nat.mul_one,Nat.one_mul,Nat.zero_mul,Nat.sub_zero,decide_true,decide_false,Bool.and_self,Bool.and_true,Bool.true_and,Bool.false_and,Bool.and_false,Bool.not_true,Bool.not_false,List.length_cons,List.length_nil,us_len,is_len,tb_len,dl_len,us_set,is_set,tb_set,Nat.not_lt_zero,List.nil_append,us_rep,is_rep, k1, k2, k3]
  · have : dl 64 9 0 = tb 9 (fun j => if j < q + 0 then s j else 0) := tb_congr fun j hj => by
      by_cases h : j < q + 0
      · rw [if_pos h, e0 j (by omega), Nat.zero_div, Nat.zero_mod]
      · rw [if_neg h, Nat.zero_div, Nat.zero_mod]
    simp only [Nat.add_zero] at this ⊢
    rw [← this]
  · intro i hi
    obtain ⟨j, hj⟩ : ∃ j, j = q + i := ⟨_, rfl⟩
    obtain ⟨j1, hj1⟩ : ∃ j1, j1 = q + (i + 1) := ⟨_, rfl⟩
    have k1 : decide ((j : Int) < 9) = true := by simp; omega
    have k2 : F (w64 ((j : Int) - (q : Int))) (i : Int) := ⟨by unfold w64; omega⟩
    have k4 : F (w64 ((j : Int) + 1)) (j1 : Int) := ⟨by unfold w64; omega⟩
    have k5 := ixOf_nat (show j < 9 by omega)
    have k6 := ixOf_nat (show i < 9 by omega)
    have k7 := hp i (by omega)
    have k8 : (j + 1 ≤ 9) = True := by simp; omega
    have k9 : tb 9 (fun a => if a = j then s j else if a < j then s a else 0) = tb 9 (fun a => if a < j1 then s a else 0) := tb_congr fun a ha => by
      by_cases h : a = j
      · rw [if_pos h, if_pos (by omega), h]
      · rw [if_neg h]
        by_cases h2 : a < j
        · rw [if_pos h2, if_pos (by omega)]
        · rw [if_neg h2, if_neg (by omega)]
    cases i with
    | zero =>
      have k10 : decide ((q : Int) < (j : Int)) = false := by simp; omega
      have k11 : w 0 * 2 ^ r % 2 ^ 64 = s j := by rw [← e1, hj]; rfl
      rw [← hj1, ← hj]
      simp only [Qa,Qb,Qc,Qd,Qe,Qf,Qg,Qh,Qi,Qj,Qk,Ql,Qm,Qn,Qo,Qp,Qq,Qr,Qs,Qt,Qu,Qv,Qw,Qx,Qy,Qz,QA,QB,QC,QD,QE,QF,QG,QH,QI,QJ,QK,QL,QM,QN,QO,QP,QQ,QR,QS,QT,QU,QV,QW,QX,QY,QZ,Q0,Q1,Q2,Q3,Q4,Q5,Q6,Q7,Q8,Q9,Xa,Xb,Xc,Xd,Xe,Xf,Xg,Xh,Xi,Xj,Xk,Xl,Xm,Xn,Xo,Xp,Xq,Xr,Xs,Xt,Xu,Xv,Xw,Xx,Xy,Xz,XA,XB,XC,XD,XE,XF,XG,XH,XI,XJ,XK,XL,XM,XN,XO,XP,XQ,XR,XS,XT,XU,XV,XW,XX,XY,XZ,X0,X1,X2,X3,X4,X5,X6,X7,X8,X9,Ya,Yb,Yc,Yd,Ye,Yf,Yg,Yh,Yi,Yj,Yk,Yl,Ym,Yn,Yo,Yp,Yq,Yr,Ys,Yt,Yu,Yv,Yw,Yx,Yy,Yz,YA,YB,YC,YD,YE,YF,YG,YH,YI,YJ,YK,YL,YM,YN,YO,YP,YQ,YR,YS,YT,YU,YV,YW,YX,YY,YZ,Y0,Y1,Y2,Y3,Y4,Y5,Y6,Y7,Y8,Y9,Za,Zb,Zc,Zd,Ze,Zf,Zg,Zh,Zi,Zj,Zk,Zl,Zm,Zn,Zo,Zp,Zq,Zr,Zs,Zt,Zu,Zv,Zw,Zx,Zy,Zz,ZA,ZB,ZC,ZD,ZE,ZF,ZG,ZH,ZI,ZJ,ZK,ZL,ZM,ZN,ZO,ZP,ZQ,ZR,ZS,ZT,ZU,ZV,ZW,ZX,ZY,ZZ,Z0,Z1,Z2,Z3,Z4,Z5,Z6,Z7,Z8,Z9,Ja,Jb,Jc,Jd,Je,Jf,Jg,Jh,Ji,Jj,Jk,Jl,Jm,Jn,Jo,Jp,Jq,Jr,Js,Jt,Ju,Jv,Jw,Jx,Jy,Jz,JA,JB,JC,JD,JE,JF,JG,JH,JI,JJ,JK,JL,JM,JN,JO,JP,JQ,JR,JS,JT,JU,JV,JW,JX,JY,JZ,J0,J1,J2,J3,J4,J5,J6,J7,J8,J9,Ka,Kb,Kc,Kd,Ke,Kf,Kg,Kh,Ki,Kj,Kk,Kl,Km,Kn,Ko,Kp,Kq,Kr,Ks,Kt,Ku,Kv,Kw,Kx,Ky,Kz,KA,KB,KC,KD,KE,KF,KG,KH,KI,KJ,KK,KL,KM,KN,KO,KP,KQ,KR,KS,KT,KU,KV,KW,KX,KY,KZ,K0,K1,K2,K3,K4,K5,K6,K7,K8,K9,Ga,Gb,Gc,Gd,Ge,Gf,Gg,Gh,Gi,Gj,Gk,Gl,Gm,Gn,Gp,Gq,Gr,Gs,Gt,Gu,Gv,Gw,Gx,Gy,Gz,GA,GB,GC,GD,GE,GF,GG,GH,GI,GJ,GK,GL,GM,GN,GO,GP,GQ,GR,GS,GT,Nat.le_refl,Nat.reduceLeDiff,List.drop_zero,us_take,us_drop,is_take,is_drop,List.take_zero,gn,if_true,if_false,Nat.reduceEqDiff,Int.reduceEq,reduceCtorEq,Nat.succ_ne_self,Nat.reduceAdd,Nat.zero_add,Nat.add_zero,Nat.reduceMul,Nat.mul_one,Nat.one_mul,Nat.zero_mul,Nat.sub_zero,decide_true,decide_false,Bool.and_self,Bool.and_true,Bool.true_and,Bool.false_and,Bool.and_false,Bool.not_true,Bool.not_false,List.length_cons,List.length_nil,us_len,is_len,tb_len,dl_len,us_set,is_set,tb_set,Nat.not_lt_zero,List.nil_append,us_rep,is_rep, k1, k2.eq, k4.eq, k5, k6, k7, k8, k9, k10, k11, g9.eq, Z6]
    | succ i =>
      have k10 : decide ((q : Int) < (j : Int)) = true := by simp; omega
      have k11 : (w (i + 1) * 2 ^ r % 2 ^ 64 ||| w i / 2 ^ u) = s j := by rw [e2, hj]; congr 1; omega
      have k12 : F (w64 (((i + 1 : Nat) : Int) - 1)) (i : Int) := ⟨by unfold w64; omega⟩
      have k13 := ho (fun a => if a = j then w (i + 1) * 2 ^ r % 2 ^ 64 else if a < j then s a else 0) j (by omega)
      simp only [if_true] at k13
      have k14 : tb 9 (fun a => if a = j then s j else if a = j then w (i + 1) * 2 ^ r % 2 ^ 64 else if a < j then s a else 0) = tb 9 (fun a => if a < j1 then s a else 0) := by
        rw [← k9]; exact tb_congr fun a ha => by by_cases h : a = j <;> simp [h]
      have k15 := ixOf_nat (show i < 9 by omega)
      have k16 := hp i (by omega)
      rw [← hj1, ← hj]
      simp only [Qa,Qb,Qc,Qd,Qe,Qf,Qg,Qh,Qi,Qj,Qk,Ql,Qm,Qn,Qo,Qp,Qq,Qr,Qs,Qt,Qu,Qv,Qw,Qx,Qy,Qz,QA,QB,QC,QD,QE,QF,QG,QH,QI,QJ,QK,QL,QM,QN,QO,QP,QQ,QR,QS,QT,QU,QV,QW,QX,QY,QZ,Q0,Q1,Q2,Q3,Q4,Q5,Q6,Q7,Q8,Q9,Xa,Xb,Xc,Xd,Xe,Xf,Xg,Xh,Xi,Xj,Xk,Xl,Xm,Xn,Xo,Xp,Xq,Xr,Xs,Xt,Xu,Xv,Xw,Xx,Xy,Xz,XA,XB,XC,XD,XE,XF,XG,XH,XI,XJ,XK,XL,XM,XN,XO,XP,XQ,XR,XS,XT,XU,XV,XW,XX,XY,XZ,X0,X1,X2,X3,X4,X5,X6,X7,X8,X9,Ya,Yb,Yc,Yd,Ye,Yf,Yg,Yh,Yi,Yj,Yk,Yl,Ym,Yn,Yo,Yp,Yq,Yr,Ys,Yt,Yu,Yv,Yw,Yx,Yy,Yz,YA,YB,YC,YD,YE,YF,YG,YH,YI,YJ,YK,YL,YM,YN,YO,YP,YQ,YR,YS,YT,YU,YV,YW,YX,YY,YZ,Y0,Y1,Y2,Y3,Y4,Y5,Y6,Y7,Y8,Y9,Za,Zb,Zc,Zd,Ze,Zf,Zg,Zh,Zi,Zj,Zk,Zl,Zm,Zn,Zo,Zp,Zq,Zr,Zs,Zt,Zu,Zv,Zw,Zx,Zy,Zz,ZA,ZB,ZC,ZD,ZE,ZF,ZG,ZH,ZI,ZJ,ZK,ZL,ZM,ZN,ZO,ZP,ZQ,ZR,ZS,ZT,ZU,ZV,ZW,ZX,ZY,ZZ,Z0,Z1,Z2,Z3,Z4,Z5,Z6,Z7,Z8,Z9,Ja,Jb,Jc,Jd,Je,Jf,Jg,Jh,Ji,Jj,Jk,Jl,Jm,Jn,Jo,Jp,Jq,Jr,Js,Jt,Ju,Jv,Jw,Jx,Jy,Jz,JA,JB,JC,JD,JE,JF,JG,JH,JI,JJ,JK,JL,JM,JN,JO,JP,JQ,JR,JS,JT,JU,JV,JW,JX,JY,JZ,J0,J1,J2,J3,J4,J5,J6,J7,J8,J9,Ka,Kb,Kc,Kd,Ke,Kf,Kg,Kh,Ki,Kj,Kk,Kl,Km,Kn,Ko,Kp,Kq,Kr,Ks,Kt,Ku,Kv,Kw,Kx,Ky,Kz,KA,KB,KC,KD,KE,KF,KG,KH,KI,KJ,KK,KL,KM,KN,KO,KP,KQ,KR,KS,KT,KU,KV,KW,KX,KY,KZ,K0,K1,K2,K3,K4,K5,K6,K7,K8,K9,Ga,Gb,Gc,Gd,Ge,Gf,Gg,Gh,Gi,Gj,Gk,Gl,Gm,Gn,Gp,Gq,Gr,Gs,Gt,Gu,Gv,Gw,Gx,Gy,Gz,GA,GB,GC,GD,GE,GF,GG,GH,GI,GJ,GK,GL,GM,GN,GO,GP,GQ,GR,GS,GT,Nat.le_refl,Nat.reduceLeDiff,List.drop_zero,us_take,us_drop,is_take,is_drop,List.take_zero,gn,if_true,if_false,Nat.reduceEqDiff,Int.reduceEq,reduceCtorEq,Nat.succ_ne_self,Nat.reduceAdd,Nat.zero_add,Nat.add_zero,Nat.reduceMul,Nat.mul_one,Nat.one_mul,Nat.zero_mul,Nat.sub_zero,decide_true,decide_false,Bool.and_self,Bool.and_true,Bool.true_and,Bool.false_and,Bool.and_false,Bool.not_true,Bool.not_false,List.length_cons,List.length_nil,us_len,is_len,tb_len,dl_len,us_set,is_set,tb_set,Nat.not_lt_zero,List.nil_append,us_rep,is_rep, k1, k2.eq, k4.eq, k5, k6, k7, k8, k10, k11, k12.eq, k13, k14, k15, k16, g9.eq, g10.eq, g13.eq, Z6]
  · have k1 : decide (((q + n : Nat) : Int) < 9) = false := by simp; omega
    simp only [Qa,Qb,Qc,Qd,Qe,Qf,Qg,Qh,Qi,Qj,Qk,Ql,Qm,Qn,Qo,Qp,Qq,Qr,Qs,Qt,Qu,Qv,Qw,Qx,Qy,Qz,QA,QB,QC,QD,QE,QF,QG,QH,QI,QJ,QK,QL,QM,QN,QO,QP,QQ,QR,QS,QT,QU,QV,QW,QX,QY,QZ,Q0,Q1,Q2,Q3,Q4,Q5,Q6,Q7,Q8,Q9,Xa,Xb,Xc,Xd,Xe,Xf,Xg,Xh,Xi,Xj,Xk,Xl,Xm,Xn,Xo,Xp,Xq,Xr,Xs,Xt,Xu,Xv,Xw,Xx,Xy,Xz,XA,XB,XC,XD,XE,XF,XG,XH,XI,XJ,XK,XL,XM,XN,XO,XP,XQ,XR,XS,XT,XU,XV,XW,XX,XY,XZ,X0,X1,X2,X3,X4,X5,X6,X7,X8,X9,Ya,Yb,Yc,Yd,Ye,Yf,Yg,Yh,Yi,Yj,Yk,Yl,Ym,Yn,Yo,Yp,Yq,Yr,Ys,Yt,Yu,Yv,Yw,Yx,Yy,Yz,YA,YB,YC,YD,YE,YF,YG,YH,YI,YJ,YK,YL,YM,YN,YO,YP,YQ,YR,YS,YT,YU,YV,YW,YX,YY,YZ,Y0,Y1,Y2,Y3,Y4,Y5,Y6,Y7,Y8,Y9,Za,Zb,Zc,Zd,Ze,Zf,Zg,Zh,Zi,Zj,Zk,Zl,Zm,Zn,Zo,Zp,Zq,Zr,Zs,Zt,Zu,Zv,Zw,Zx,Zy,Zz,ZA,ZB,ZC,ZD,ZE,ZF,ZG,ZH,ZI,ZJ,ZK,ZL,ZM,ZN,ZO,ZP,ZQ,ZR,ZS,ZT,ZU,ZV,ZW,ZX,ZY,ZZ,Z0,Z1,Z2,Z3,Z4,Z5,Z6,Z7,Z8,Z9,Ja,Jb,Jc,Jd,Je,Jf,Jg,Jh,Ji,Jj,Jk,Jl,Jm,Jn,Jo,Jp,Jq,Jr,Js,Jt,Ju,Jv,Jw,Jx,Jy,Jz,JA,JB,JC,JD,JE,JF,JG,JH,JI,JJ,JK,JL,JM,JN,JO,JP,JQ,JR,JS,JT,JU,JV,JW,JX,JY,JZ,J0,J1,J2,J3,J4,J5,J6,J7,J8,J9,Ka,Kb,Kc,Kd,Ke,Kf,Kg,Kh,Ki,Kj,Kk,Kl,Km,Kn,Ko,Kp,Kq,Kr,Ks,Kt,Ku,Kv,Kw,Kx,Ky,Kz,KA,KB,KC,KD,KE,KF,KG,KH,KI,KJ,KK,KL,KM,KN,KO,KP,KQ,KR,KS,KT,KU,KV,KW,KX,KY,KZ,K0,K1,K2,K3,K4,K5,K6,K7,K8,K9,Ga,Gb,Gc,Gd,Ge,Gf,Gg,Gh,Gi,Gj,Gk,Gl,Gm,Gn,Gp,Gq,Gr,Gs,Gt,Gu,Gv,Gw,Gx,Gy,Gz,GA,GB,GC,GD,GE,GF,GG,GH,GI,GJ,GK,GL,GM,GN,GO,GP,GQ,GR,GS,GT,Nat.le_refl,Nat.reduceLeDiff,List.drop_zero,us_take,us_drop,is_take,is_drop,List.take_zero,gn,if_true,if_false,Nat.reduceEqDiff,Int.reduceEq,reduceCtorEq,Nat.succ_ne_self,Nat.reduceAdd,Nat.zero_add,Nat.add_zero,Nat.reduceMul,Nat.mul_one,Nat.one_mul,Nat.zero_mul,Nat.sub_zero,decide_true,decide_false,Bool.and_self,Bool.and_true,Bool.true_and,Bool.false_and,Bool.and_false,Bool.not_true,Bool.not_false,List.length_cons,List.length_nil,us_len,is_len,tb_len,dl_len,us_set,is_set,tb_set,Nat.not_lt_zero,List.nil_append,us_rep,is_rep, k1]

theorem r_natAdd {x y : Nat} (hx : x < M) (hy : y < M) : Run T f_nat_Add [natv x, natv y] [] = some (.tup [natv ((x + y) % M), .b (decide (M ≤ x + y))], []) := by
  rw [Run_at T _ (show T f_nat_Add = some m_nat_Add from rfl)]
  simp only [c_nat_Add, zero9]
  obtain ⟨c, hc⟩ : ∃ c : Nat → Nat, ∀ i, c i = (x % 2 ^ (64 * i) + y % 2 ^ (64 * i)) / 2 ^ (64 * i) := ⟨_, fun _ => rfl⟩
  obtain ⟨p, hp⟩ : ∃ p : Nat → Nat, ∀ i, p i = x / 2 ^ (64 * i) % 2 ^ 64 := ⟨_, fun _ => rfl⟩
  obtain ⟨q, hq⟩ : ∃ q : Nat → Nat, ∀ i, q i = y / 2 ^ (64 * i) % 2 ^ 64 := ⟨_, fun _ => rfl⟩
  obtain ⟨s, hs⟩ : ∃ s : Nat → Nat, ∀ i, s i = (x + y) / 2 ^ (64 * i) % 2 ^ 64 := ⟨_, fun _ => rfl⟩
  have hcl : ∀ i, (c i ≤ 1) = True := fun i => by rw [hc]; exact eq_true (carry_le 64 x y i)
  have hlo : ∀ i, (p i + q i + c i) % 2 ^ 64 = s i := fun i => by rw [hp, hq, hc, hs]; exact carry_lo 64 x y i
  have hhi : ∀ i, (p i + q i + c i) / 2 ^ 64 = c (i + 1) := fun i => by rw [hp, hq, hc, hc]; exact carry_hi 64 x y i
  have hc0 : c 0 = 0 := by rw [hc]; simp [Nat.mod_one]
  have hc9 : c 9 = if M ≤ x + y then 1 else 0 := by
    rw [hc, ← M64, Nat.mod_eq_of_lt hx, Nat.mod_eq_of_lt hy]
    have hM : 0 < M := Nat.two_pow_pos _
    split
    · rename_i h
      exact Nat.div_eq_of_lt_le (by omega) (by omega)
    · exact Nat.div_eq_of_lt (by omega)
  have hl : dl 64 9 x = tb 9 p := tb_congr fun j hj => (hp j).symm
  have hl2 : dl 64 9 y = tb 9 q := tb_congr fun j hj => (hq j).symm
  have hpp : ∀ i, i < 9 → part (us 64 (tb 9 q)) i none = some (.u 64 (q i)) := fun i hi => by simp only [part]; exact us_get (tb_get hi)
  have ho : ∀ (f : Nat → Nat) i, i < 9 → part (us 64 (tb 9 f)) i none = some (.u 64 (f i)) := fun f i hi => by simp only [part]; exact us_get (tb_get hi)
  simp only [natv, hl, hl2]
  simp only [Qa,Qb,Qc,Qd,Qe,Qf,Qg,Qh,Qi,Qj,Qk,Ql,Qm,Qn,Qo,Qp,Qq,Qr,Qs,Qt,Qu,Qv,Qw,Qx,Qy,Qz,QA,QB,QC,QD,QE,QF,QG,QH,QI,QJ,QK,QL,QM,QN,QO,QP,QQ,QR,QS,QT,QU,QV,QW,QX,QY,QZ,Q0,Q1,Q2,Q3,Q4,Q5,Q6,Q7,Q8,Q9,Xa,Xb,Xc,Xd,Xe,Xf,Xg,Xh,Xi,Xj,Xk,Xl,Xm,Xn,Xo,Xp,Xq,Xr,Xs,Xt,Xu,Xv,Xw,Xx,Xy,Xz,XA,XB,XC,XD,XE,XF,XG,XH,XI,XJ,XK,XL,XM,XN,XO,XP,XQ,XR,XS,XT,XU,XV,XW,XX,XY,XZ,X0,X1,X2,X3,X4,X5,X6,X7,X8,X9,Ya,Yb,Yc,Yd,Ye,Yf,Yg,Yh,Yi,Yj,Yk,Yl,Ym,Yn,Yo,Yp,Yq,Yr,Ys,Yt,Yu,Yv,Yw,Yx,Yy,Yz,YA,YB,YC,YD,YE,YF,YG,YH,YI,YJ,YK,YL,YM,YN,YO,YP,YQ,YR,YS,YT,YU,YV,YW,YX,YY,YZ,Y0,Y1,Y2,Y3,Y4,Y5,Y6,Y7,Y8,Y9,Za,Zb,Zc,Zd,Ze,Zf,Zg,Zh,Zi,Zj,Zk,Zl,Zm,Zn,Zo,Zp,Zq,Zr,Zs,Zt,Zu,Zv,Zw,Zx,Zy,Zz,ZA,ZB,ZC,ZD,ZE,ZF,ZG,ZH,ZI,ZJ,ZK,ZL,ZM,ZN,ZO,ZP,ZQ,ZR,ZS,ZT,ZU,ZV,ZW,ZX,ZY,ZZ,Z0,Z1,Z2,Z3,Z4,Z5,Z6,Z7,Z8,Z9,Ja,Jb,Jc,Jd,Je,Jf,Jg,Jh,Ji,Jj,Jk,Jl,Jm,Jn,Jo,Jp,Jq,Jr,Js,Jt,Ju,Jv,Jw,Jx,Jy,Jz,JA,JB,JC,JD,JE,JF,JG,JH,JI,JJ,JK,JL,JM,JN,JO,JP,JQ,JR,JS,JT,JU,JV,JW,JX,JY,JZ,J0,J1,J2,J3,J4,J5,J6,J7,J8,J9,Ka,Kb,Kc,Kd,Ke,Kf,Kg,Kh,Ki,Kj,Kk,Kl,Km,Kn,Ko,Kp,Kq,Kr,Ks,Kt,Ku,Kv,Kw,Kx,Ky,Kz,KA,KB,KC,KD,KE,KF,KG,KH,KI,KJ,KK,KL,KM,KN,KO,KP,KQ,KR,KS,KT,KU,KV,KW,KX,KY,KZ,K0,K1,K2,K3,K4,K5,K6,K7,K8,K9,Ga,Gb,Gc,Gd,Ge,Gf,Gg,Gh,Gi,Gj,Gk,Gl,Gm,Gn,Gp,Gq,Gr,Gs,Gt,Gu,Gv,Gw,Gx,Gy,Gz,GA,GB,GC,GD,GE,GF,GG,GH,GI,GJ,GK,GL,GM,GN,GO,GP,GQ,GR,GS,GT,Nat.le_refl,Nat.reduceLeDiff,List.drop_zero,us_take,us_drop,is_take,is_drop,List.take_zero,gn,if_true,if_false,Nat.reduceEqDiff,Int.reduceEq,reduceCtorEq,Nat.succ_ne_self,Nat.reduceAdd,Nat.zero_add,Nat.add_zero,Nat.reduceMul,Nat.mul_one,Nat.one_mul,Nat.zero_mul,Nat.sub_zero,decide_true,decide_false,Bool.and_self,Bool.and_true,Bool.true_and,Bool.false_and,Bool.and_false,Bool.not_true,Bool.not_false,List.length_cons,List.length_nil,us_len,is_len,tb_len,dl_len,us_set,is_set,tb_set,Nat.not_lt_zero,List.nil_append,us_rep,is_rep]
  rw [loop_use T (fun i => ⟨[(2, .loc (us 64 (tb 9 fun j => if j < i then s j else p j))), (3, .vr (us 64 (tb 9 q)) 0), (4, .loc (us 64 (dl 64 9 0))), (6, .u 64 (c i)), (8, .i (i : Int))], []⟩) 9
    (.exit 0, ⟨[(2, .loc (us 64 (tb 9 fun j => if j < 9 then s j else p j))), (4, .loc (us 64 (dl 64 9 0))), (6, .u 64 (c 9))], []⟩) ?h0 (by simp) ?hs ?hn]
  · have k1 : tb 9 (fun j => if j < 9 then s j else p j) = dl 64 9 ((x + y) % M) := by
      rw [M64, dl_mod]
      exact tb_congr fun j hj => by rw [if_pos hj, hs]
    have k2 := part_us (w := 64) (dl_len 64 9 ((x + y) % M))
    have k3 : splice (us 64 (dl 64 9 0)) 0 (us 64 (dl 64 9 ((x + y) % M))) = us 64 (dl 64 9 ((x + y) % M)) := sp_us (by rw [us_len, dl_len, dl_len])
    have k4 : decide (c 9 = 1) = decide (M ≤ x + y) := by
      rw [hc9]
      by_cases h : M ≤ x + y <;> simp [h]
    simp only [Qa,Qb,Qc,Qd,Qe,Qf,Qg,Qh,Qi,Qj,Qk,Ql,Qm,Qn,Qo,Qp,Qq,Qr,Qs,Qt,Qu,Qv,Qw,Qx,Qy,Qz,QA,QB,QC,QD,QE,QF,QG,QH,QI,QJ,QK,QL,QM,QN,QO,QP,QQ,QR,QS,QT,QU,QV,QW,QX,QY,QZ,Q0,Q1,Q2,Q3,Q4,Q5,Q6,Q7,Q8,Q9,Xa,Xb,Xc,Xd,Xe,Xf,Xg,Xh,Xi,Xj,Xk,Xl,Xm,Xn,Xo,Xp,Xq,Xr,Xs,Xt,Xu,Xv,Xw,Xx,Xy,Xz,XA,XB,XC,XD,XE,XF,XG,XH,XI,XJ,XK,XL,XM,XN,XO,XP,XQ,XR,XS,XT,XU,XV,XW,XX,XY,XZ,X0,X1,X2,X3,X4,X5,X6,X7,X8,X9,Ya,Yb,Yc,Yd,Ye,Yf,Yg,Yh,Yi,Yj,Yk,Yl,Ym,Yn,Yo,Yp,Yq,Yr,Ys,Yt,Yu,Yv,Yw,Yx,Yy,Yz,YA,YB,YC,YD,YE,YF,YG,YH,YI,YJ,YK,YL,YM,YN,YO,YP,YQ,YR,YS,YT,YU,YV,YW,YX,YY,YZ,Y0,Y1,Y2,Y3,Y4,Y5,Y6,Y7,Y8,Y9,Za,Zb,Zc,Zd,Ze,Zf,Zg,Zh,Zi,Zj,Zk,Zl,Zm,Zn,Zo,Zp,Zq,Zr,Zs,Zt,Zu,Zv,Zw,Zx,Zy,Zz,ZA,ZB,ZC,ZD,ZE,ZF,ZG,ZH,ZI,ZJ,ZK,ZL,ZM,ZN,ZO,ZP,ZQ,ZR,ZS,ZT,ZU,ZV,ZW,ZX,ZY,ZZ,Z0,Z1,Z2,Z3,Z4,Z5,Z6,Z7,Z8,Z9,Ja,Jb,Jc,Jd,Je,Jf,Jg,Jh,Ji,Jj,Jk,Jl,Jm,Jn,Jo,Jp,Jq,Jr,Js,Jt,Ju,Jv,Jw,Jx,Jy,Jz,JA,JB,JC,JD,JE,JF,JG,JH,JI,JJ,JK,JL,JM,JN,JO,JP,JQ,JR,JS,JT,JU,JV,JW,JX,JY,JZ,J0,J1,J2,J3,J4,J5,J6,J7,J8,J9,Ka,Kb,Kc,Kd,Ke,Kf,Kg,Kh,Ki,Kj,Kk,Kl,Km,Kn,Ko,Kp,Kq,Kr,Ks,Kt,Ku,Kv,Kw,Kx,Ky,Kz,KA,KB,KC,KD,KE,KF,KG,KH,KI,KJ,KK,KL,KM,KN,KO,KP,KQ,KR,KS,KT,KU,KV,KW,KX,KY,KZ,K0,K1,K2,K3,K4,K5,K6,K7,K8,K9,Ga,Gb,Gc,Gd,Ge,Gf,Gg,Gh,Gi,Gj,Gk,Gl,Gm,Gn,Gp,Gq,Gr,Gs,Gt,Gu,Gv,Gw,Gx,Gy,Gz,GA,GB,GC,GD,GE,GF,GG,GH,GI,GJ,GK,GL,GM,GN,GO,GP,GQ,GR,GS,GT,Nat.le_refl,Nat.reduceLeDiff,List.drop_zero,us_take,us_drop,is_take,is_drop,List.take_zero,gn,if_true,if_false,Nat.reduceEqDiff,Int.reduceEq,reduceCtorEq,Nat.succ_ne_self,Nat.reduceAdd,Nat.zero_add,Nat.add_zero,Nat.reduceMul,Nat.mul_one,Nat.one_mul,Nat.zero_mul,Nat.sub_zero,decide_true,decide_false,Bool.and_self,Bool.and_true,Bool.true_and,Bool.false_and,Bool.and_false,Bool.not_true,Bool.not_false,List.length_cons,List.length_nil,us_len,is_len,tb_len,dl_len,us_set,is_set,tb_set,Nat.not_lt_zero,List.nil_append,us_rep,is_rep, k1, k2, k3, k4]
  · rw [hc0]; simp only [Nat.not_lt_zero, if_false]; rfl
  · intro i hi
    have k1 : decide ((i : Int) < 9) = true := by simp; omega
    obtain ⟨i1, hi1⟩ : ∃ i1, i1 = i + 1 := ⟨_, rfl⟩
    have k2 : F (w64 ((i : Int) + 1)) (i1 : Int) := ⟨by unfold w64; omega⟩
    have k3 := ixOf_nat (show i < 9 by omega)
    have k4 := hpp i hi
    have k5 := ho (fun j => if j < i then s j else p j) i hi
    rw [if_neg (Nat.lt_irrefl i)] at k5
    have k6 : (i + 1 ≤ 9) = True := by simp; omega
    have k7 : tb 9 (fun j => if j = i then s i else if j < i then s j else p j) = tb 9 (fun j => if j < i1 then s j else p j) := tb_congr fun a ha => by
      by_cases h : a = i
      · rw [if_pos h, if_pos (by omega), h]
      · rw [if_neg h]
        by_cases h2 : a < i
        · rw [if_pos h2, if_pos (by omega)]
        · rw [if_neg h2, if_neg (by omega)]
    have k8 := hcl i
    have k9 := hlo i
    have k10 := hhi i
    rw [← hi1] at k10 ⊢
    simp only [Qa,Qb,Qc,Qd,Qe,Qf,Qg,Qh,Qi,Qj,Qk,Ql,Qm,Qn,Qo,Qp,Qq,Qr,Qs,Qt,Qu,Qv,Qw,Qx,Qy,Qz,QA,QB,QC,QD,QE,QF,QG,QH,QI,QJ,QK,QL,QM,QN,QO,QP,QQ,QR,QS,QT,QU,QV,QW,QX,QY,QZ,Q0,Q1,Q2,Q3,Q4,Q5,Q6,Q7,Q8,Q9,Xa,Xb,Xc,Xd,Xe,Xf,Xg,Xh,Xi,Xj,Xk,Xl,Xm,Xn,Xo,Xp,Xq,Xr,Xs,Xt,Xu,Xv,Xw,Xx,Xy,Xz,XA,XB,XC,XD,XE,XF,XG,XH,XI,XJ,XK,XL,XM,XN,XO,XP,XQ,XR,XS,XT,XU,XV,XW,XX,XY,XZ,X0,X1,X2,X3,X4,X5,X6,X7,X8,X9,Ya,Yb,Yc,Yd,Ye,Yf,Yg,Yh,Yi,Yj,Yk,Yl,Ym,Yn,Yo,Yp,Yq,Yr,Ys,Yt,Yu,Yv,Yw,Yx,Yy,Yz,YA,YB,YC,YD,YE,YF,YG,YH,YI,YJ,YK,YL,YM,YN,YO,YP,YQ,YR,YS,YT,YU,YV,YW,YX,YY,YZ,Y0,Y1,Y2,Y3,Y4,Y5,Y6,Y7,Y8,Y9,Za,Zb,Zc,Zd,Ze,Zf,Zg,Zh,Zi,Zj,Zk,Zl,Zm,Zn,Zo,Zp,Zq,Zr,Zs,Zt,Zu,Zv,Zw,Zx,Zy,Zz,ZA,ZB,ZC,ZD,ZE,ZF,ZG,ZH,ZI,ZJ,ZK,ZL,ZM,ZN,ZO,ZP,ZQ,ZR,ZS,ZT,ZU,ZV,ZW,ZX,ZY,ZZ,Z0,Z1,Z2,Z3,Z4,Z5,Z6,Z7,Z8,Z9,Ja,Jb,Jc,Jd,Je,Jf,Jg,Jh,Ji,Jj,Jk,Jl,Jm,Jn,Jo,Jp,Jq,Jr,Js,Jt,Ju,Jv,Jw,Jx,Jy,Jz,JA,JB,JC,JD,JE,JF,JG,JH,JI,JJ,JK,JL,JM,JN,JO,JP,JQ,JR,JS,JT,JU,JV,JW,JX,JY,JZ,J0,J1,J2,J3,J4,J5,J6,J7,J8,J9,Ka,Kb,Kc,Kd,Ke,Kf,Kg,Kh,Ki,Kj,Kk,Kl,Km,Kn,Ko,Kp,Kq,Kr,Ks,Kt,Ku,Kv,Kw,Kx,Ky,Kz,KA,KB,KC,KD,KE,KF,KG,KH,KI,KJ,KK,KL,KM,KN,KO,KP,KQ,KR,KS,KT,KU,KV,KW,KX,KY,KZ,K0,K1,K2,K3,K4,K5,K6,K7,K8,K9,Ga,Gb,Gc,Gd,Ge,Gf,Gg,Gh,Gi,Gj,Gk,Gl,Gm,Gn,Gp,Gq,Gr,Gs,Gt,Gu,Gv,Gw,Gx,Gy,Gz,GA,GB,GC,GD,GE,GF,GG,GH,GI,GJ,GK,GL,GM,GN,GO,GP,GQ,GR,GS,GT,Nat.le_refl,Nat.reduceLeDiff,List.drop_zero,us_take,us_drop,is_take,is_drop,List.take_zero,gn,if_true,if_false,Nat.reduceEqDiff,Int.reduceEq,reduceCtorEq,Nat.succ_ne_self,Nat.reduceAdd,Nat.zero_add,Nat.add_zero,Nat.reduceMul,Nat.mul_one,Nat.one_mul,Nat.zero_mul,Nat.sub_zero,decide_true,decide_false,Bool.and_self,Bool.and_true,Bool.true_and,Bool.false_and,Bool.and_false,Bool.not_true,Bool.not_false,List.length_cons,List.length_nil,us_len,is_len,tb_len,dl_len,us_set,is_set,tb_set,Nat.not_lt_zero,List.nil_append,us_rep,is_rep, k1, k2.eq, k3, k4, k5, k6, k7, k8, k9, k10]
  · have k1 : decide (((9 : Nat) : Int) < 9) = false := by simp
    simp only [Qa,Qb,Qc,Qd,Qe,Qf,Qg,Qh,Qi,Qj,Qk,Ql,Qm,Qn,Qo,Qp,Qq,Qr,Qs,Qt,Qu,Qv,Qw,Qx,Qy,Qz,QA,QB,QC,QD,QE,QF,QG,QH,QI,QJ,QK,QL,QM,QN,QO,QP,QQ,QR,QS,QT,QU,QV,QW,QX,QY,QZ,Q0,Q1,Q2,Q3,Q4,Q5,Q6,Q7,Q8,Q9,Xa,Xb,Xc,Xd,Xe,Xf,Xg,Xh,Xi,Xj,Xk,Xl,Xm,Xn,Xo,Xp,Xq,Xr,Xs,Xt,Xu,Xv,Xw,Xx,Xy,Xz,XA,XB,XC,XD,XE,XF,XG,XH,XI,XJ,XK,XL,XM,XN,XO,XP,XQ,XR,XS,XT,XU,XV,XW,XX,XY,XZ,X0,X1,X2,X3,X4,X5,X6,X7,X8,X9,Ya,Yb,Yc,Yd,Ye,Yf,Yg,Yh,Yi,Yj,Yk,Yl,Ym,Yn,Yo,Yp,Yq,Yr,Ys,Yt,Yu,Yv,Yw,Yx,Yy,Yz,YA,YB,YC,YD,YE,YF,YG,YH,YI,YJ,YK,YL,YM,YN,YO,YP,YQ,YR,YS,YT,YU,YV,YW,YX,YY,YZ,Y0,Y1,Y2,Y3,Y4,Y5,Y6,Y7,Y8,Y9,Za,Zb,Zc,Zd,Ze,Zf,Zg,Zh,Zi,Zj,Zk,Zl,Zm,Zn,Zo,Zp,Zq,Zr,Zs,Zt,Zu,Zv,Zw,Zx,Zy,Zz,ZA,ZB,ZC,ZD,ZE,ZF,ZG,ZH,ZI,ZJ,ZK,ZL,ZM,ZN,ZO,ZP,ZQ,ZR,ZS,ZT,ZU,ZV,ZW,ZX,ZY,ZZ,Z0,Z1,Z2,Z3,Z4,Z5,Z6,Z7,Z8,Z9,Ja,Jb,Jc,Jd,Je,Jf,Jg,Jh,Ji,Jj,Jk,Jl,Jm,Jn,Jo,Jp,Jq,Jr,Js,Jt,Ju,Jv,Jw,Jx,Jy,Jz,JA,JB,JC,JD,JE,JF,JG,JH,JI,JJ,JK,JL,JM,JN,JO,JP,JQ,JR,JS,JT,JU,JV,JW,JX,JY,JZ,J0,J1,J2,J3,J4,J5,J6,J7,J8,J9,Ka,Kb,Kc,Kd,Ke,Kf,Kg,Kh,Ki,Kj,Kk,Kl,Km,Kn,Ko,Kp,Kq,Kr,Ks,Kt,Ku,Kv,Kw,Kx,Ky,Kz,KA,KB,KC,KD,KE,KF,KG,KH,KI,KJ,KK,KL,KM,KN,KO,KP,KQ,KR,KS,KT,KU,KV,KW,KX,KY,KZ,K0,K1,K2,K3,K4,K5,K6,K7,K8,K9,Ga,Gb,Gc,Gd,Ge,Gf,Gg,Gh,Gi,Gj,Gk,Gl,Gm,Gn,Gp,Gq,Gr,Gs,Gt,Gu,Gv,Gw,Gx,Gy,Gz,GA,GB,GC,GD,GE,GF,GG,GH,GI,GJ,GK,GL,GM,GN,GO,GP,GQ,GR,GS,GT,Nat.le_refl,Nat.reduceLeDiff,List.drop_zero,us_take,us_drop,is_take,is_drop,List.take_zero,gn,if_true,if_false,Nat.reduceEqDiff,Int.reduceEq,reduceCtorEq,Nat.succ_ne_self,Nat.reduceAdd,Nat.zero_add,Nat.add_zero,Nat.reduceMul,Nat.mul_one,Nat.one_mul,Nat.zero_mul,Nat.sub_zero,decide_true,decide_false,Bool.and_self,Bool.and_true,Bool.true_and,Bool.false_and,Bool.and_false,Bool.not_true,Bool.not_false,List.length_cons,List.length_nil,us_len,is_len,tb_len,dl_len,us_set,is_set,tb_set,Nat.not_lt_zero,List.nil_append,us_rep,is_rep, k1]

end Mir
