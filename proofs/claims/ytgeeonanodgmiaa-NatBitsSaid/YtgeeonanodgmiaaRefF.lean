/- The document's numbers: Shl, Shr, Mul, Wide. Conditions: none. -/
import Derived.Test.YtgeeonanodgmiaaRefE
import Derived.Test.YtgeeonanodgmiaaNatD
set_option linter.unusedVariables false
set_option linter.unusedSimpArgs false
set_option exponentiation.threshold 5000
set_option maxRecDepth 20000
namespace Mir

/-- One digit shifted in above. -/
theorem shl_word {a i q r : Nat} (hr : r < 32) (U V p uh : Nat) (hU : U = a % 2 ^ (32 * i) * 2 ^ (32 * q + r)) (hV : V = a % 2 ^ (32 * (i + 1)) * 2 ^ (32 * q + r)) (hp : p = a / 2 ^ (32 * i) % 2 ^ 32) (hu : uh = U / 2 ^ (32 * (i + q)) % 2 ^ 32) :
    (∀ j, j < i + q → V / 2 ^ (32 * j) % 2 ^ 32 = U / 2 ^ (32 * j) % 2 ^ 32) ∧ V / 2 ^ (32 * (i + q)) % 2 ^ 32 = (uh ||| p * 2 ^ r % 2 ^ 32) ∧ V / 2 ^ (32 * (i + q + 1)) % 2 ^ 32 = p * 2 ^ r / 2 ^ 32 ∧ p * 2 ^ r < 2 ^ 64 ∧
    (∀ j, i + q < j → U / 2 ^ (32 * j) % 2 ^ 32 = 0) ∧ (∀ j, i + q + 1 < j → V / 2 ^ (32 * j) % 2 ^ 32 = 0) := by
  have hpl : p < 2 ^ 32 := by rw [hp]; exact Nat.mod_lt _ (Nat.two_pow_pos 32)
  have h31 : 2 ^ r ≤ 2 ^ 31 := Nat.pow_le_pow_right (by omega) (by omega)
  have hrp : 0 < 2 ^ r := Nat.two_pow_pos r
  have hUl : U < 2 ^ (32 * (i + q) + r) := by
    rw [hU, show 32 * (i + q) + r = 32 * i + (32 * q + r) by omega, Nat.pow_add 2 (32 * i) (32 * q + r)]
    exact Nat.mul_lt_mul_of_pos_right (Nat.mod_lt _ (Nat.two_pow_pos _)) (Nat.two_pow_pos _)
  have hVl : V < 2 ^ (32 * (i + q + 1) + r) := by
    rw [hV, show 32 * (i + q + 1) + r = 32 * (i + 1) + (32 * q + r) by omega, Nat.pow_add 2 (32 * (i + 1)) (32 * q + r)]
    exact Nat.mul_lt_mul_of_pos_right (Nat.mod_lt _ (Nat.two_pow_pos _)) (Nat.two_pow_pos _)
  have hUV : V = U + 2 ^ (32 * (i + q)) * (p * 2 ^ r) := by
    rw [hV, mod_step 32 a i, Nat.add_mul, ← hU, ← hp]
    congr 1
    rw [show 32 * (i + q) = 32 * i + 32 * q by omega, Nat.pow_add, Nat.pow_add, Nat.mul_assoc, Nat.mul_assoc]
    congr 1
    rw [Nat.mul_left_comm]
  have hB : 0 < 2 ^ (32 * (i + q)) := Nat.two_pow_pos _
  have hdl : U / 2 ^ (32 * (i + q)) < 2 ^ r := by
    rw [Nat.div_lt_iff_lt_mul hB, ← Nat.pow_add, Nat.add_comm]; exact hUl
  have huh : U / 2 ^ (32 * (i + q)) = uh := by rw [hu]; exact (Nat.mod_eq_of_lt (by omega)).symm
  have hm : p * 2 ^ r ≤ (2 ^ 32 - 1) * 2 ^ 31 := Nat.mul_le_mul (by omega) h31
  have e32 : (2:Nat) ^ 32 = 2 ^ r * 2 ^ (32 - r) := by rw [← Nat.pow_add]; congr 1; omega
  have hlow : p * 2 ^ r % 2 ^ 32 = 2 ^ r * (p % 2 ^ (32 - r)) := by
    conv => lhs; rw [e32, Nat.mul_comm p, Nat.mul_mod_mul_left]
  rw [huh] at hdl
  refine ⟨fun j hj => ?_, ?_, ?_, by omega, fun j hj => ?_, fun j hj => ?_⟩
  · have e : 2 ^ (32 * (i + q)) = 2 ^ (32 * j) * (2 ^ 32 * 2 ^ (32 * (i + q - j - 1))) := by
      rw [← Nat.pow_add, ← Nat.pow_add]; congr 1; omega
    rw [hUV, e, Nat.mul_assoc, Nat.mul_assoc, Nat.add_mul_div_left _ _ (Nat.two_pow_pos _), Nat.add_mul_mod_self_left]
  · rw [hUV, Nat.add_mul_div_left _ _ hB, huh, Nat.or_comm, hlow, ← Nat.two_pow_add_eq_or_of_lt hdl, ← hlow]
    have h2 : p * 2 ^ r % 2 ^ 32 + uh < 2 ^ 32 := by
      rw [hlow]
      have h3 : p % 2 ^ (32 - r) < 2 ^ (32 - r) := Nat.mod_lt _ (Nat.two_pow_pos _)
      have h4 : 2 ^ r * (p % 2 ^ (32 - r) + 1) ≤ 2 ^ r * 2 ^ (32 - r) := Nat.mul_le_mul_left _ h3
      rw [← e32, Nat.mul_succ] at h4
      omega
    omega
  · have e : 2 ^ (32 * (i + q + 1)) = 2 ^ (32 * (i + q)) * 2 ^ 32 := by rw [← Nat.pow_add]; congr 1
    rw [hUV, e, ← Nat.div_div_eq_div_mul, Nat.add_mul_div_left _ _ hB, huh]
    have h2 : p * 2 ^ r % 2 ^ 32 + uh < 2 ^ 32 := by
      rw [hlow]
      have h3 : p % 2 ^ (32 - r) < 2 ^ (32 - r) := Nat.mod_lt _ (Nat.two_pow_pos _)
      have h4 : 2 ^ r * (p % 2 ^ (32 - r) + 1) ≤ 2 ^ r * 2 ^ (32 - r) := Nat.mul_le_mul_left _ h3
      rw [← e32, Nat.mul_succ] at h4
      omega
    omega
  · rw [Nat.div_eq_of_lt (Nat.lt_of_lt_of_le hUl (Nat.pow_le_pow_right (by omega) (by omega))), Nat.zero_mod]
  · rw [Nat.div_eq_of_lt (Nat.lt_of_lt_of_le hVl (Nat.pow_le_pow_right (by omega) (by omega))), Nat.zero_mod]

theorem r_refShl {a k : Nat} (ha : Fit a) (hk : k < 1000000000) : Run T f_curvetref1_Shl [num a, .i (k : Int)] [] = some (num (a * 2 ^ k), []) := by
  rw [Run_at T _ (show T f_curvetref1_Shl = some m_curvetref1_Shl from rfl)]
  simp only [c_curvetref1_Shl]
  have hLa := dg_len_lt a
  obtain ⟨n, hn⟩ : ∃ n, n = (dg a).length := ⟨_, rfl⟩
  have hn9 : n < 1000000000 := by rw [hn]; exact ha
  rw [← hn] at hLa
  obtain ⟨q, hq⟩ : ∃ q, q = k / 32 := ⟨_, rfl⟩
  obtain ⟨r, hr⟩ : ∃ r, r = k % 32 := ⟨_, rfl⟩
  have hk' : k = 32 * q + r := by omega
  have hr32 : r < 32 := by omega
  obtain ⟨nq, hnq⟩ : ∃ z, z = n + q := ⟨_, rfl⟩
  obtain ⟨L, hL⟩ : ∃ z, z = n + q + 1 := ⟨_, rfl⟩
  obtain ⟨p, hp⟩ : ∃ p : Nat → Nat, ∀ i, p i = a / 2 ^ (32 * i) % 2 ^ 32 := ⟨_, fun _ => rfl⟩
  obtain ⟨U, hU⟩ : ∃ U : Nat → Nat, ∀ i, U i = a % 2 ^ (32 * i) * 2 ^ (32 * q + r) := ⟨_, fun _ => rfl⟩
  obtain ⟨w, hw⟩ : ∃ w : Nat → Nat → Nat, ∀ i j, w i j = U i / 2 ^ (32 * j) % 2 ^ 32 := ⟨_, fun _ _ => rfl⟩
  have pa : ∀ i, i < n → part (us 32 (dg a)) i none = some (.u 32 (p i)) := fun i hi => by rw [hp]; exact dg_part (by omega)
  have hpl : ∀ i, p i < 2 ^ 32 := fun i => by rw [hp]; exact Nat.mod_lt _ (Nat.two_pow_pos 32)
  have k1 : decide (n < 9223372036854775808) = true := by simp; omega
  have k2 : F (w64 (Int.tdiv (k : Int) 32)) (q : Int) := ⟨by rw [Int.tdiv_eq_ediv_of_nonneg (by omega)]; unfold w64; omega⟩
  have k3 : F (Int.tmod (k : Int) 32) (r : Int) := ⟨by rw [Int.tmod_eq_emod_of_nonneg (by omega)]; omega⟩
  have k4 : F (w64 ((n : Int) + (q : Int))) (nq : Int) := ⟨by unfold w64; omega⟩
  have k5 : F (w64 ((nq : Int) + 1)) (L : Int) := ⟨by unfold w64; omega⟩
  have k6 := ixOf_nat (show L < 140737488355329 by omega)
  have k7 := ixOf_nat (show L < L + 1 by omega)
  have k8 : roomOk L 4 = true := by simp [roomOk]; omega
  have k9 : F (min r 64) r := ⟨by omega⟩
  simp only [num, ← hn]
  simp only [Qa,Qb,Qc,Qd,Qe,Qf,Qg,Qh,Qi,Qj,Qk,Ql,Qm,Qn,Qo,Qp,Qq,Qr,Qs,Qt,Qu,Qv,Qw,Qx,Qy,Qz,QA,QB,QC,QD,QE,QF,QG,QH,QI,QJ,QK,QL,QM,QN,QO,QP,QQ,QR,QS,QT,QU,QV,QW,QX,QY,QZ,Q0,Q1,Q2,Q3,Q4,Q5,Q6,Q7,Q8,Q9,Xa,Xb,Xc,Xd,Xe,Xf,Xg,Xh,Xi,Xj,Xk,Xl,Xm,Xn,Xo,Xp,Xq,Xr,Xs,Xt,Xu,Xv,Xw,Xx,Xy,Xz,XA,XB,XC,XD,XE,XF,XG,XH,XI,XJ,XK,XL,XM,XN,XO,XP,XQ,XR,XS,XT,XU,XV,XW,XX,XY,XZ,X0,X1,X2,X3,X4,X5,X6,X7,X8,X9,Ya,Yb,Yc,Yd,Ye,Yf,Yg,Yh,Yi,Yj,Yk,Yl,Ym,Yn,Yo,Yp,Yq,Yr,Ys,Yt,Yu,Yv,Yw,Yx,Yy,Yz,YA,YB,YC,YD,YE,YF,YG,YH,YI,YJ,YK,YL,YM,YN,YO,YP,YQ,YR,YS,YT,YU,YV,YW,YX,YY,YZ,Y0,Y1,Y2,Y3,Y4,Y5,Y6,Y7,Y8,Y9,Za,Zb,Zc,Zd,Ze,Zf,Zg,Zh,Zi,Zj,Zk,Zl,Zm,Zn,Zo,Zp,Zq,Zr,Zs,Zt,Zu,Zv,Zw,Zx,Zy,Zz,ZA,ZB,ZC,ZD,ZE,ZF,ZG,ZH,ZI,ZJ,ZK,ZL,ZM,ZN,ZO,ZP,ZQ,ZR,ZS,ZT,ZU,ZV,ZW,ZX,ZY,ZZ,Z0,Z1,Z2,Z3,Z4,Z5,Z6,Z7,Z8,Z9,Ja,Jb,Jc,Jd,Je,Jf,Jg,Jh,Ji,Jj,Jk,Jl,Jm,Jn,Jo,Jp,Jq,Jr,Js,Jt,Ju,Jv,Jw,Jx,Jy,Jz,JA,JB,JC,JD,JE,JF,JG,JH,JI,JJ,JK,JL,JM,JN,JO,JP,JQ,JR,JS,JT,JU,JV,JW,JX,JY,JZ,J0,J1,J2,J3,J4,J5,J6,J7,J8,J9,Ka,Kb,Kc,Kd,Ke,Kf,Kg,Kh,Ki,Kj,Kk,Kl,Km,Kn,Ko,Kp,Kq,Kr,Ks,Kt,Ku,Kv,Kw,Kx,Ky,Kz,KA,KB,KC,KD,KE,KF,KG,KH,KI,KJ,KK,KL,KM,KN,KO,KP,KQ,KR,KS,KT,KU,KV,KW,KX,KY,KZ,K0,K1,K2,K3,K4,K5,K6,K7,K8,K9,Ga,Gb,Gc,Gd,Ge,Gf,Gg,Gh,Gi,Gj,Gk,Gl,Gm,Gn,Gp,Gq,Gr,Gs,Gt,Gu,Gv,Gw,Gx,Gy,Gz,GA,GB,GC,GD,GE,GF,GG,GH,GI,GJ,GK,GL,GM,GN,GO,GP,GQ,GR,GS,GT,Nat.le_refl,Nat.reduceLeDiff,List.drop_zero,us_take,us_drop,is_take,is_drop,List.take_zero,gn,if_true,if_false,Nat.reduceEqDiff,Int.reduceEq,reduceCtorEq,Nat.succ_ne_self,Nat.reduceAdd,Nat.zero_add,Nat.add_zero,Nat.reduceMul,Nat.mul_one,Nat.one_mul,Nat.zero_mul,Nat.sub_zero,decide_true,decide_false,Bool.and_self,Bool.and_true,Bool.true_and,Bool.false_and,Bool.and_false,Bool.not_true,Bool.not_false,List.length_cons,List.length_nil,us_len,is_len,tb_len,dl_len,us_set,is_set,tb_set,Nat.not_lt_zero,List.nil_append,us_rep,is_rep, k1, k2.eq, k4.eq, k5.eq, k6, k7, k8]
  rw [loop_use T (fun i => ⟨[(0, .vs n (us 32 (dg a))), (1, .i (k : Int)), (5, .hs 1 0 0 L L), (6, .i (i : Int))], [some (us 32 (tb L fun j => w i j))]⟩) n
    (.exit 0, ⟨[(5, .hs 1 0 0 L L)], [some (us 32 (dl 32 L (a * 2 ^ k)))]⟩) ?h0 (by simp) ?hs ?hn]
  · have hS : a * 2 ^ k < 2 ^ (32 * L) := by
      have h1 : a * 2 ^ k < 2 ^ (32 * n) * 2 ^ k := Nat.mul_lt_mul_of_pos_right hLa (Nat.two_pow_pos k)
      rw [← Nat.pow_add] at h1
      exact Nat.lt_of_lt_of_le h1 (Nat.pow_le_pow_right (by omega) (by omega))
    have l1 := r_trimD hS (by omega)
    have l2 := take_dgD hS
    have l3 : ((dg (a * 2 ^ k)).length ≤ L) = True := by simp; exact dg_len_le _ _ hS
    simp only [Qa,Qb,Qc,Qd,Qe,Qf,Qg,Qh,Qi,Qj,Qk,Ql,Qm,Qn,Qo,Qp,Qq,Qr,Qs,Qt,Qu,Qv,Qw,Qx,Qy,Qz,QA,QB,QC,QD,QE,QF,QG,QH,QI,QJ,QK,QL,QM,QN,QO,QP,QQ,QR,QS,QT,QU,QV,QW,QX,QY,QZ,Q0,Q1,Q2,Q3,Q4,Q5,Q6,Q7,Q8,Q9,Xa,Xb,Xc,Xd,Xe,Xf,Xg,Xh,Xi,Xj,Xk,Xl,Xm,Xn,Xo,Xp,Xq,Xr,Xs,Xt,Xu,Xv,Xw,Xx,Xy,Xz,XA,XB,XC,XD,XE,XF,XG,XH,XI,XJ,XK,XL,XM,XN,XO,XP,XQ,XR,XS,XT,XU,XV,XW,XX,XY,XZ,X0,X1,X2,X3,X4,X5,X6,X7,X8,X9,Ya,Yb,Yc,Yd,Ye,Yf,Yg,Yh,Yi,Yj,Yk,Yl,Ym,Yn,Yo,Yp,Yq,Yr,Ys,Yt,Yu,Yv,Yw,Yx,Yy,Yz,YA,YB,YC,YD,YE,YF,YG,YH,YI,YJ,YK,YL,YM,YN,YO,YP,YQ,YR,YS,YT,YU,YV,YW,YX,YY,YZ,Y0,Y1,Y2,Y3,Y4,Y5,Y6,Y7,Y8,Y9,Za,Zb,Zc,Zd,Ze,Zf,Zg,Zh,Zi,Zj,Zk,Zl,Zm,Zn,Zo,Zp,Zq,Zr,Zs,Zt,Zu,Zv,Zw,Zx,Zy,Zz,ZA,ZB,ZC,ZD,ZE,ZF,ZG,ZH,ZI,ZJ,ZK,ZL,ZM,ZN,ZO,ZP,ZQ,ZR,ZS,ZT,ZU,ZV,ZW,ZX,ZY,ZZ,Z0,Z1,Z2,Z3,Z4,Z5,Z6,Z7,Z8,Z9,Ja,Jb,Jc,Jd,Je,Jf,Jg,Jh,Ji,Jj,Jk,Jl,Jm,Jn,Jo,Jp,Jq,Jr,Js,Jt,Ju,Jv,Jw,Jx,Jy,Jz,JA,JB,JC,JD,JE,JF,JG,JH,JI,JJ,JK,JL,JM,JN,JO,JP,JQ,JR,JS,JT,JU,JV,JW,JX,JY,JZ,J0,J1,J2,J3,J4,J5,J6,J7,J8,J9,Ka,Kb,Kc,Kd,Ke,Kf,Kg,Kh,Ki,Kj,Kk,Kl,Km,Kn,Ko,Kp,Kq,Kr,Ks,Kt,Ku,Kv,Kw,Kx,Ky,Kz,KA,KB,KC,KD,KE,KF,KG,KH,KI,KJ,KK,KL,KM,KN,KO,KP,KQ,KR,KS,KT,KU,KV,KW,KX,KY,KZ,K0,K1,K2,K3,K4,K5,K6,K7,K8,K9,Ga,Gb,Gc,Gd,Ge,Gf,Gg,Gh,Gi,Gj,Gk,Gl,Gm,Gn,Gp,Gq,Gr,Gs,Gt,Gu,Gv,Gw,Gx,Gy,Gz,GA,GB,GC,GD,GE,GF,GG,GH,GI,GJ,GK,GL,GM,GN,GO,GP,GQ,GR,GS,GT,Nat.le_refl,Nat.reduceLeDiff,List.drop_zero,us_take,us_drop,is_take,is_drop,List.take_zero,gn,if_true,if_false,Nat.reduceEqDiff,Int.reduceEq,reduceCtorEq,Nat.succ_ne_self,Nat.reduceAdd,Nat.zero_add,Nat.add_zero,Nat.reduceMul,Nat.mul_one,Nat.one_mul,Nat.zero_mul,Nat.sub_zero,decide_true,decide_false,Bool.and_self,Bool.and_true,Bool.true_and,Bool.false_and,Bool.and_false,Bool.not_true,Bool.not_false,List.length_cons,List.length_nil,us_len,is_len,tb_len,dl_len,us_set,is_set,tb_set,Nat.not_lt_zero,List.nil_append,us_rep,is_rep, l1, l2, l3]
  · have e1 : List.replicate L 0 = tb L (fun j => w 0 j) := by
      rw [tb_rep]; exact tb_congr fun j hj => by rw [hw, hU]; simp [Nat.mod_one]
    rw [e1]; rfl
  · intro i hi
    obtain ⟨s, hs⟩ : ∃ s, s = i + q := ⟨_, rfl⟩
    obtain ⟨s1, hs1⟩ : ∃ s1, s1 = i + q + 1 := ⟨_, rfl⟩
    obtain ⟨t1, t2, t3, t4, t5, t6⟩ := shl_word (a := a) (i := i) (q := q) hr32 (U i) (U (i + 1)) (p i) (w i s) (hU i) (hU (i + 1)) (hp i) (by rw [hw, hs])
    rw [← hs] at t1 t2 t5
    rw [← hs1] at t3 t6
    have l1 : decide ((i : Int) < (n : Int)) = true := by simp; omega
    have l2 : F (w64 ((i : Int) + 1)) ((i + 1 : Nat) : Int) := ⟨by unfold w64; omega⟩
    have l3 := ixOf_nat hi
    have l4 := pa i hi
    have l5 : p i % 2 ^ 64 = p i := Nat.mod_eq_of_lt (by have := hpl i; omega)
    obtain ⟨y, hy⟩ : ∃ y, y = p i * 2 ^ r := ⟨_, rfl⟩
    rw [← hy] at t2 t3 t4
    have l6 : y % 2 ^ 64 = y := Nat.mod_eq_of_lt t4
    have l7 : F (w64 ((i : Int) + (q : Int))) (s : Int) := ⟨by unfold w64; omega⟩
    have l8 : F (w64 ((s : Int) + 1)) (s1 : Int) := ⟨by unfold w64; omega⟩
    have l9 := ixOf_nat (show s < L by omega)
    have l10 := ixOf_nat (show s1 < L by omega)
    have l11 := part_tb (w := 32) (fun j => w i j) s (show s < L by omega)
    have l12 : (y &&& 4294967295) % 2 ^ 32 = y % 2 ^ 32 := by rw [and32p]; exact Nat.mod_eq_of_lt (Nat.mod_lt _ (Nat.two_pow_pos 32))
    have l13 : (w i s ||| y % 2 ^ 32) = w (i + 1) s := by rw [hw (i + 1), t2]
    have l14 : y / 2 ^ 32 % 2 ^ 32 = w (i + 1) s1 := by
      rw [hw, t3]; exact Nat.mod_eq_of_lt (by omega)
    have l15 : (s + 1 ≤ L) = True := by simp; omega
    have l16 : (s1 + 1 ≤ L) = True := by simp; omega
    have l17 : F (min 32 64) 32 := ⟨rfl⟩
    have l18 : tb L (fun j => if j = s1 then w (i + 1) s1 else if j = s then w (i + 1) s else w i j) = tb L (fun j => w (i + 1) j) := tb_congr fun j hj => by
      by_cases h : j = s1
      · rw [if_pos h, h]
      · rw [if_neg h]
        by_cases h2 : j = s
        · rw [if_pos h2, h2]
        · rw [if_neg h2, hw, hw]
          rcases Nat.lt_or_ge j s with h3 | h3
          · exact (t1 j h3).symm
          · rw [t5 j (by omega), t6 j (by omega)]
    simp only [Qa,Qb,Qc,Qd,Qe,Qf,Qg,Qh,Qi,Qj,Qk,Ql,Qm,Qn,Qo,Qp,Qq,Qr,Qs,Qt,Qu,Qv,Qw,Qx,Qy,Qz,QA,QB,QC,QD,QE,QF,QG,QH,QI,QJ,QK,QL,QM,QN,QO,QP,QQ,QR,QS,QT,QU,QV,QW,QX,QY,QZ,Q0,Q1,Q2,Q3,Q4,Q5,Q6,Q7,Q8,Q9,Xa,Xb,Xc,Xd,Xe,Xf,Xg,Xh,Xi,Xj,Xk,Xl,Xm,Xn,Xo,Xp,Xq,Xr,Xs,Xt,Xu,Xv,Xw,Xx,Xy,Xz,XA,XB,XC,XD,XE,XF,XG,XH,XI,XJ,XK,XL,XM,XN,XO,XP,XQ,XR,XS,XT,XU,XV,XW,XX,XY,XZ,X0,X1,X2,X3,X4,X5,X6,X7,X8,X9,Ya,Yb,Yc,Yd,Ye,Yf,Yg,Yh,Yi,Yj,Yk,Yl,Ym,Yn,Yo,Yp,Yq,Yr,Ys,Yt,Yu,Yv,Yw,Yx,Yy,Yz,YA,YB,YC,YD,YE,YF,YG,YH,YI,YJ,YK,YL,YM,YN,YO,YP,YQ,YR,YS,YT,YU,YV,YW,YX,YY,YZ,Y0,Y1,Y2,Y3,Y4,Y5,Y6,Y7,Y8,Y9,Za,Zb,Zc,Zd,Ze,Zf,Zg,Zh,Zi,Zj,Zk,Zl,Zm,Zn,Zo,Zp,Zq,Zr,Zs,Zt,Zu,Zv,Zw,Zx,Zy,Zz,ZA,ZB,ZC,ZD,ZE,ZF,ZG,ZH,ZI,ZJ,ZK,ZL,ZM,ZN,ZO,ZP,ZQ,ZR,ZS,ZT,ZU,ZV,ZW,ZX,ZY,ZZ,Z0,Z1,Z2,Z3,Z4,Z5,Z6,Z7,Z8,Z9,Ja,Jb,Jc,Jd,Je,Jf,Jg,Jh,Ji,Jj,Jk,Jl,Jm,Jn,Jo,Jp,Jq,Jr,Js,Jt,Ju,Jv,Jw,Jx,Jy,Jz,JA,JB,JC,JD,JE,JF,JG,JH,JI,JJ,JK,JL,JM,JN,JO,JP,JQ,JR,JS,JT,JU,JV,JW,JX,JY,JZ,J0,J1,J2,J3,J4,J5,J6,J7,J8,J9,Ka,Kb,Kc,Kd,Ke,Kf,Kg,Kh,Ki,Kj,Kk,Kl,Km,Kn,Ko,Kp,Kq,Kr,Ks,Kt,Ku,Kv,Kw,Kx,Ky,Kz,KA,KB,KC,KD,KE,KF,KG,KH,KI,KJ,KK,KL,KM,KN,KO,KP,KQ,KR,KS,KT,KU,KV,KW,KX,KY,KZ,K0,K1,K2,K3,K4,K5,K6,K7,K8,K9,Ga,Gb,Gc,Gd,Ge,Gf,Gg,Gh,Gi,Gj,Gk,Gl,Gm,Gn,Gp,Gq,Gr,Gs,Gt,Gu,Gv,Gw,Gx,Gy,Gz,GA,GB,GC,GD,GE,GF,GG,GH,GI,GJ,GK,GL,GM,GN,GO,GP,GQ,GR,GS,GT,Nat.le_refl,Nat.reduceLeDiff,List.drop_zero,us_take,us_drop,is_take,is_drop,List.take_zero,gn,if_true,if_false,Nat.reduceEqDiff,Int.reduceEq,reduceCtorEq,Nat.succ_ne_self,Nat.reduceAdd,Nat.zero_add,Nat.add_zero,Nat.reduceMul,Nat.mul_one,Nat.one_mul,Nat.zero_mul,Nat.sub_zero,decide_true,decide_false,Bool.and_self,Bool.and_true,Bool.true_and,Bool.false_and,Bool.and_false,Bool.not_true,Bool.not_false,List.length_cons,List.length_nil,us_len,is_len,tb_len,dl_len,us_set,is_set,tb_set,Nat.not_lt_zero,List.nil_append,us_rep,is_rep, k1, k2.eq, k3.eq, k9.eq, l1, l2.eq, l3, l4, l5, ← hy, l6, l7.eq, l8.eq, l9, l10, l11, l12, l13, l14, l15, l16, l17.eq, l18]
  · have l1 : decide ((n : Int) < (n : Int)) = false := by simp
    have l2 : tb L (fun j => w n j) = dl 32 L (a * 2 ^ k) := tb_congr fun j hj => by rw [hw, hU, Nat.mod_eq_of_lt hLa, ← hk']
    simp only [Qa,Qb,Qc,Qd,Qe,Qf,Qg,Qh,Qi,Qj,Qk,Ql,Qm,Qn,Qo,Qp,Qq,Qr,Qs,Qt,Qu,Qv,Qw,Qx,Qy,Qz,QA,QB,QC,QD,QE,QF,QG,QH,QI,QJ,QK,QL,QM,QN,QO,QP,QQ,QR,QS,QT,QU,QV,QW,QX,QY,QZ,Q0,Q1,Q2,Q3,Q4,Q5,Q6,Q7,Q8,Q9,Xa,Xb,Xc,Xd,Xe,Xf,Xg,Xh,Xi,Xj,Xk,Xl,Xm,Xn,Xo,Xp,Xq,Xr,Xs,Xt,Xu,Xv,Xw,Xx,Xy,Xz,XA,XB,XC,XD,XE,XF,XG,XH,XI,XJ,XK,XL,XM,XN,XO,XP,XQ,XR,XS,XT,XU,XV,XW,XX,XY,XZ,X0,X1,X2,X3,X4,X5,X6,X7,X8,X9,Ya,Yb,Yc,Yd,Ye,Yf,Yg,Yh,Yi,Yj,Yk,Yl,Ym,Yn,Yo,Yp,Yq,Yr,Ys,Yt,Yu,Yv,Yw,Yx,Yy,Yz,YA,YB,YC,YD,YE,YF,YG,YH,YI,YJ,YK,YL,YM,YN,YO,YP,YQ,YR,YS,YT,YU,YV,YW,YX,YY,YZ,Y0,Y1,Y2,Y3,Y4,Y5,Y6,Y7,Y8,Y9,Za,Zb,Zc,Zd,Ze,Zf,Zg,Zh,Zi,Zj,Zk,Zl,Zm,Zn,Zo,Zp,Zq,Zr,Zs,Zt,Zu,Zv,Zw,Zx,Zy,Zz,ZA,ZB,ZC,ZD,ZE,ZF,ZG,ZH,ZI,ZJ,ZK,ZL,ZM,ZN,ZO,ZP,ZQ,ZR,ZS,ZT,ZU,ZV,ZW,ZX,ZY,ZZ,Z0,Z1,Z2,Z3,Z4,Z5,Z6,Z7,Z8,Z9,Ja,Jb,Jc,Jd,Je,Jf,Jg,Jh,Ji,Jj,Jk,Jl,Jm,Jn,Jo,Jp,Jq,Jr,Js,Jt,Ju,Jv,Jw,Jx,Jy,Jz,JA,JB,JC,JD,JE,JF,JG,JH,JI,JJ,JK,JL,JM,JN,JO,JP,JQ,JR,JS,JT,JU,JV,JW,JX,JY,JZ,J0,J1,J2,J3,J4,J5,J6,J7,J8,J9,Ka,Kb,Kc,Kd,Ke,Kf,Kg,Kh,Ki,Kj,Kk,Kl,Km,Kn,Ko,Kp,Kq,Kr,Ks,Kt,Ku,Kv,Kw,Kx,Ky,Kz,KA,KB,KC,KD,KE,KF,KG,KH,KI,KJ,KK,KL,KM,KN,KO,KP,KQ,KR,KS,KT,KU,KV,KW,KX,KY,KZ,K0,K1,K2,K3,K4,K5,K6,K7,K8,K9,Ga,Gb,Gc,Gd,Ge,Gf,Gg,Gh,Gi,Gj,Gk,Gl,Gm,Gn,Gp,Gq,Gr,Gs,Gt,Gu,Gv,Gw,Gx,Gy,Gz,GA,GB,GC,GD,GE,GF,GG,GH,GI,GJ,GK,GL,GM,GN,GO,GP,GQ,GR,GS,GT,Nat.le_refl,Nat.reduceLeDiff,List.drop_zero,us_take,us_drop,is_take,is_drop,List.take_zero,gn,if_true,if_false,Nat.reduceEqDiff,Int.reduceEq,reduceCtorEq,Nat.succ_ne_self,Nat.reduceAdd,Nat.zero_add,Nat.add_zero,Nat.reduceMul,Nat.mul_one,Nat.one_mul,Nat.zero_mul,Nat.sub_zero,decide_true,decide_false,Bool.and_self,Bool.and_true,Bool.true_and,Bool.false_and,Bool.and_false,Bool.not_true,Bool.not_false,List.length_cons,List.length_nil,us_len,is_len,tb_len,dl_len,us_set,is_set,tb_set,Nat.not_lt_zero,List.nil_append,us_rep,is_rep, k1, l1, l2]

theorem shr32 {a k q r i j : Nat} (hk : k = 32 * q + r) (hr : r < 32) (hj : j = i + q) : (a / 2 ^ (32 * j) % 2 ^ 32 ||| a / 2 ^ (32 * (i + q + 1)) % 2 ^ 32 * 2 ^ 32 % 2 ^ 64) / 2 ^ r % 2 ^ 32 = a / 2 ^ k / 2 ^ (32 * i) % 2 ^ 32 := by
  subst hj hk
  have hsi : a / 2 ^ (32 * q + r) / 2 ^ (32 * i) % 2 ^ 32 = a / 2 ^ (32 * (i + q)) / 2 ^ r % 2 ^ 32 := by
    rw [Nat.div_div_eq_div_mul, Nat.div_div_eq_div_mul, ← Nat.pow_add, ← Nat.pow_add, show 32 * q + r + 32 * i = 32 * (i + q) + r by omega]
  rw [hsi, show 32 * (i + q + 1) = 32 * (i + q) + 32 by omega, Nat.pow_add 2 (32 * (i + q)) 32, ← Nat.div_div_eq_div_mul]
  generalize a / 2 ^ (32 * (i + q)) = y
  have h3 : y / 2 ^ 32 % 2 ^ 32 * 2 ^ 32 % 2 ^ 64 = 2 ^ 32 * (y / 2 ^ 32 % 2 ^ 32) := by omega
  have h4 : (y % 2 ^ 32 ||| 2 ^ 32 * (y / 2 ^ 32 % 2 ^ 32)) = y % 2 ^ 64 := by
    rw [Nat.or_comm, ← Nat.two_pow_add_eq_or_of_lt (Nat.mod_lt _ (by omega))]; omega
  rw [h3, h4]
  have e64 : (2:Nat) ^ 64 = 2 ^ r * (2 ^ 32 * 2 ^ (32 - r)) := by rw [← Nat.pow_add, ← Nat.pow_add]; congr 1; omega
  rw [e64, Nat.mod_mul_right_div_self, Nat.mod_mul_right_mod]

theorem num_zero : num 0 = .vs 0 [] := by simp only [num, dg_zero]; rfl

theorem r_refShr {a k : Nat} (ha : Fit a) (hk : k < 1000000000) : Run T f_curvetref1_Shr [num a, .i (k : Int)] [] = some (num (a / 2 ^ k), []) := by
  rw [Run_at T _ (show T f_curvetref1_Shr = some m_curvetref1_Shr from rfl)]
  simp only [c_curvetref1_Shr]
  have hLa := dg_len_lt a
  obtain ⟨n, hn⟩ : ∃ n, n = (dg a).length := ⟨_, rfl⟩
  have hn9 : n < 1000000000 := by rw [hn]; exact ha
  rw [← hn] at hLa
  obtain ⟨q, hq⟩ : ∃ q, q = k / 32 := ⟨_, rfl⟩
  obtain ⟨r, hr⟩ : ∃ r, r = k % 32 := ⟨_, rfl⟩
  have hk' : k = 32 * q + r := by omega
  have k1 : decide (n < 9223372036854775808) = true := by simp; omega
  have k2 : F (w64 (Int.tdiv (k : Int) 32)) (q : Int) := ⟨by rw [Int.tdiv_eq_ediv_of_nonneg (by omega)]; unfold w64; omega⟩
  have k3 : F (Int.tmod (k : Int) 32) (r : Int) := ⟨by rw [Int.tmod_eq_emod_of_nonneg (by omega)]; omega⟩
  have dga := fun i h => r_digit ha i h
  have nha := num_noHp a 6
  obtain ⟨na, hna⟩ : ∃ v, v = num a := ⟨_, rfl⟩
  have hlen : lenV na = some n := by rw [hna, hn]; rfl
  have e1 : evV na = na := by rw [hna]; rfl
  have e3 : san na = na := by rw [hna]; rfl
  rw [← hna] at dga nha ⊢
  by_cases hqn : n ≤ q
  · have k4 : decide ((n : Int) ≤ (q : Int)) = true := by simp; omega
    have hz : a / 2 ^ k = 0 := Nat.div_eq_of_lt (Nat.lt_of_lt_of_le hLa (Nat.pow_le_pow_right (by omega) (by omega)))
    have hv : ∀ (H : Heap), fzV false H 0 6 (.vs 0 []) = some (.vs 0 []) := fun H => Gy false H 0 5 0 32 []
    rw [hz, num_zero]
    simp only [Qa,Qb,Qc,Qd,Qe,Qf,Qg,Qh,Qi,Qj,Qk,Ql,Qm,Qn,Qo,Qp,Qq,Qr,Qs,Qt,Qu,Qv,Qw,Qx,Qy,Qz,QA,QB,QC,QD,QE,QF,QG,QH,QI,QJ,QK,QL,QM,QN,QO,QP,QQ,QR,QS,QT,QU,QV,QW,QX,QY,QZ,Q0,Q1,Q2,Q3,Q4,Q5,Q6,Q7,Q8,Q9,Xa,Xb,Xc,Xd,Xe,Xf,Xg,Xh,Xi,Xj,Xk,Xl,Xm,Xn,Xo,Xp,Xq,Xr,Xs,Xt,Xu,Xv,Xw,Xx,Xy,Xz,XA,XB,XC,XD,XE,XF,XG,XH,XI,XJ,XK,XL,XM,XN,XO,XP,XQ,XR,XS,XT,XU,XV,XW,XX,XY,XZ,X0,X1,X2,X3,X4,X5,X6,X7,X8,X9,Ya,Yb,Yc,Yd,Ye,Yf,Yg,Yh,Yi,Yj,Yk,Yl,Ym,Yn,Yo,Yp,Yq,Yr,Ys,Yt,Yu,Yv,Yw,Yx,Yy,Yz,YA,YB,YC,YD,YE,YF,YG,YH,YI,YJ,YK,YL,YM,YN,YO,YP,YQ,YR,YS,YT,YU,YV,YW,YX,YY,YZ,Y0,Y1,Y2,Y3,Y4,Y5,Y6,Y7,Y8,Y9,Za,Zb,Zc,Zd,Ze,Zf,Zg,Zh,Zi,Zj,Zk,Zl,Zm,Zn,Zo,Zp,Zq,Zr,Zs,Zt,Zu,Zv,Zw,Zx,Zy,Zz,ZA,ZB,ZC,ZD,ZE,ZF,ZG,ZH,ZI,ZJ,ZK,ZL,ZM,ZN,ZO,ZP,ZQ,ZR,ZS,ZT,ZU,ZV,ZW,ZX,ZY,ZZ,Z0,Z1,Z2,Z3,Z4,Z5,Z6,Z7,Z8,Z9,Ja,Jb,Jc,Jd,Je,Jf,Jg,Jh,Ji,Jj,Jk,Jl,Jm,Jn,Jo,Jp,Jq,Jr,Js,Jt,Ju,Jv,Jw,Jx,Jy,Jz,JA,JB,JC,JD,JE,JF,JG,JH,JI,JJ,JK,JL,JM,JN,JO,JP,JQ,JR,JS,JT,JU,JV,JW,JX,JY,JZ,J0,J1,J2,J3,J4,J5,J6,J7,J8,J9,Ka,Kb,Kc,Kd,Ke,Kf,Kg,Kh,Ki,Kj,Kk,Kl,Km,Kn,Ko,Kp,Kq,Kr,Ks,Kt,Ku,Kv,Kw,Kx,Ky,Kz,KA,KB,KC,KD,KE,KF,KG,KH,KI,KJ,KK,KL,KM,KN,KO,KP,KQ,KR,KS,KT,KU,KV,KW,KX,KY,KZ,K0,K1,K2,K3,K4,K5,K6,K7,K8,K9,Ga,Gb,Gc,Gd,Ge,Gf,Gg,Gh,Gi,Gj,Gk,Gl,Gm,Gn,Gp,Gq,Gr,Gs,Gt,Gu,Gv,Gw,Gx,Gy,Gz,GA,GB,GC,GD,GE,GF,GG,GH,GI,GJ,GK,GL,GM,GN,GO,GP,GQ,GR,GS,GT,Nat.le_refl,Nat.reduceLeDiff,List.drop_zero,us_take,us_drop,is_take,is_drop,List.take_zero,gn,if_true,if_false,Nat.reduceEqDiff,Int.reduceEq,reduceCtorEq,Nat.succ_ne_self,Nat.reduceAdd,Nat.zero_add,Nat.add_zero,Nat.reduceMul,Nat.mul_one,Nat.one_mul,Nat.zero_mul,Nat.sub_zero,decide_true,decide_false,Bool.and_self,Bool.and_true,Bool.true_and,Bool.false_and,Bool.and_false,Bool.not_true,Bool.not_false,List.length_cons,List.length_nil,us_len,is_len,tb_len,dl_len,us_set,is_set,tb_set,Nat.not_lt_zero,List.nil_append,us_rep,is_rep, e1, e3, hlen, k1, k2.eq, k4, hv]
  · have k4 : decide ((n : Int) ≤ (q : Int)) = false := by simp; omega
    obtain ⟨L, hL⟩ : ∃ z, z = n - q := ⟨_, rfl⟩
    have k5 : F (w64 ((n : Int) - (q : Int))) (L : Int) := ⟨by unfold w64; omega⟩
    have k6 := ixOf_nat (show L < 140737488355329 by omega)
    have k7 := ixOf_nat (show L < L + 1 by omega)
    have k8 : roomOk L 4 = true := by simp [roomOk]; omega
    have k9 : F (min r 64) r := ⟨by omega⟩
    have k10 : decide (L < 9223372036854775808) = true := by simp; omega
    obtain ⟨s, hs⟩ : ∃ s : Nat → Nat, ∀ i, s i = a / 2 ^ k / 2 ^ (32 * i) % 2 ^ 32 := ⟨_, fun _ => rfl⟩
    simp only [Qa,Qb,Qc,Qd,Qe,Qf,Qg,Qh,Qi,Qj,Qk,Ql,Qm,Qn,Qo,Qp,Qq,Qr,Qs,Qt,Qu,Qv,Qw,Qx,Qy,Qz,QA,QB,QC,QD,QE,QF,QG,QH,QI,QJ,QK,QL,QM,QN,QO,QP,QQ,QR,QS,QT,QU,QV,QW,QX,QY,QZ,Q0,Q1,Q2,Q3,Q4,Q5,Q6,Q7,Q8,Q9,Xa,Xb,Xc,Xd,Xe,Xf,Xg,Xh,Xi,Xj,Xk,Xl,Xm,Xn,Xo,Xp,Xq,Xr,Xs,Xt,Xu,Xv,Xw,Xx,Xy,Xz,XA,XB,XC,XD,XE,XF,XG,XH,XI,XJ,XK,XL,XM,XN,XO,XP,XQ,XR,XS,XT,XU,XV,XW,XX,XY,XZ,X0,X1,X2,X3,X4,X5,X6,X7,X8,X9,Ya,Yb,Yc,Yd,Ye,Yf,Yg,Yh,Yi,Yj,Yk,Yl,Ym,Yn,Yo,Yp,Yq,Yr,Ys,Yt,Yu,Yv,Yw,Yx,Yy,Yz,YA,YB,YC,YD,YE,YF,YG,YH,YI,YJ,YK,YL,YM,YN,YO,YP,YQ,YR,YS,YT,YU,YV,YW,YX,YY,YZ,Y0,Y1,Y2,Y3,Y4,Y5,Y6,Y7,Y8,Y9,Za,Zb,Zc,Zd,Ze,Zf,Zg,Zh,Zi,Zj,Zk,Zl,Zm,Zn,Zo,Zp,Zq,Zr,Zs,Zt,Zu,Zv,Zw,Zx,Zy,Zz,ZA,ZB,ZC,ZD,ZE,ZF,ZG,ZH,ZI,ZJ,ZK,ZL,ZM,ZN,ZO,ZP,ZQ,ZR,ZS,ZT,ZU,ZV,ZW,ZX,ZY,ZZ,Z0,Z1,Z2,Z3,Z4,Z5,Z6,Z7,Z8,Z9,Ja,Jb,Jc,Jd,Je,Jf,Jg,Jh,Ji,Jj,Jk,Jl,Jm,Jn,Jo,Jp,Jq,Jr,Js,Jt,Ju,Jv,Jw,Jx,Jy,Jz,JA,JB,JC,JD,JE,JF,JG,JH,JI,JJ,JK,JL,JM,JN,JO,JP,JQ,JR,JS,JT,JU,JV,JW,JX,JY,JZ,J0,J1,J2,J3,J4,J5,J6,J7,J8,J9,Ka,Kb,Kc,Kd,Ke,Kf,Kg,Kh,Ki,Kj,Kk,Kl,Km,Kn,Ko,Kp,Kq,Kr,Ks,Kt,Ku,Kv,Kw,Kx,Ky,Kz,KA,KB,KC,KD,KE,KF,KG,KH,KI,KJ,KK,KL,KM,KN,KO,KP,KQ,KR,KS,KT,KU,KV,KW,KX,KY,KZ,K0,K1,K2,K3,K4,K5,K6,K7,K8,K9,Ga,Gb,Gc,Gd,Ge,Gf,Gg,Gh,Gi,Gj,Gk,Gl,Gm,Gn,Gp,Gq,Gr,Gs,Gt,Gu,Gv,Gw,Gx,Gy,Gz,GA,GB,GC,GD,GE,GF,GG,GH,GI,GJ,GK,GL,GM,GN,GO,GP,GQ,GR,GS,GT,Nat.le_refl,Nat.reduceLeDiff,List.drop_zero,us_take,us_drop,is_take,is_drop,List.take_zero,gn,if_true,if_false,Nat.reduceEqDiff,Int.reduceEq,reduceCtorEq,Nat.succ_ne_self,Nat.reduceAdd,Nat.zero_add,Nat.add_zero,Nat.reduceMul,Nat.mul_one,Nat.one_mul,Nat.zero_mul,Nat.sub_zero,decide_true,decide_false,Bool.and_self,Bool.and_true,Bool.true_and,Bool.false_and,Bool.and_false,Bool.not_true,Bool.not_false,List.length_cons,List.length_nil,us_len,is_len,tb_len,dl_len,us_set,is_set,tb_set,Nat.not_lt_zero,List.nil_append,us_rep,is_rep, e1, e3, hlen, k1, k2.eq, k4, k5.eq, k6, k7, k8]
    rw [loop_use T (fun i => ⟨[(0, na), (1, .i (k : Int)), (5, .hs 1 0 0 L L), (6, .i (i : Int))], [some (us 32 (tb L fun j => if j < i then s j else 0))]⟩) L
      (.exit 0, ⟨[(5, .hs 1 0 0 L L)], [some (us 32 (dl 32 L (a / 2 ^ k)))]⟩) ?h0 (by simp) ?hs ?hn]
    · have hS : a / 2 ^ k < 2 ^ (32 * L) := by
        rw [Nat.div_lt_iff_lt_mul (Nat.two_pow_pos k), ← Nat.pow_add]
        exact Nat.lt_of_lt_of_le hLa (Nat.pow_le_pow_right (by omega) (by omega))
      have l1 := r_trimD hS (by omega)
      have l2 := take_dgD hS
      have l3 : ((dg (a / 2 ^ k)).length ≤ L) = True := by simp; exact dg_len_le _ _ hS
      simp only [Qa,Qb,Qc,Qd,Qe,Qf,Qg,Qh,Qi,Qj,Qk,Ql,Qm,Qn,Qo,Qp,Qq,Qr,Qs,Qt,Qu,Qv,Qw,Qx,Qy,Qz,QA,QB,QC,QD,QE,QF,QG,QH,QI,QJ,QK,QL,QM,QN,QO,QP,QQ,QR,QS,QT,QU,QV,QW,QX,QY,QZ,Q0,Q1,Q2,Q3,Q4,Q5,Q6,Q7,Q8,Q9,Xa,Xb,Xc,Xd,Xe,Xf,Xg,Xh,Xi,Xj,Xk,Xl,Xm,Xn,Xo,Xp,Xq,Xr,Xs,Xt,Xu,Xv,Xw,Xx,Xy,Xz,XA,XB,XC,XD,XE,XF,XG,XH,XI,XJ,XK,XL,XM,XN,XO,XP,XQ,XR,XS,XT,XU,XV,XW,XX,XY,XZ,X0,X1,X2,X3,X4,X5,X6,X7,X8,X9,Ya,Yb,Yc,Yd,Ye,Yf,Yg,Yh,Yi,Yj,Yk,Yl,Ym,Yn,Yo,Yp,Yq,Yr,Ys,Yt,Yu,Yv,Yw,Yx,Yy,Yz,YA,YB,YC,YD,YE,YF,YG,YH,YI,YJ,YK,YL,YM,YN,YO,YP,YQ,YR,YS,YT,YU,YV,YW,YX,YY,YZ,Y0,Y1,Y2,Y3,Y4,Y5,Y6,Y7,Y8,Y9,Za,Zb,Zc,Zd,Ze,Zf,Zg,Zh,Zi,Zj,Zk,Zl,Zm,Zn,Zo,Zp,Zq,Zr,Zs,Zt,Zu,Zv,Zw,Zx,Zy,Zz,ZA,ZB,ZC,ZD,ZE,ZF,ZG,ZH,ZI,ZJ,ZK,ZL,ZM,ZN,ZO,ZP,ZQ,ZR,ZS,ZT,ZU,ZV,ZW,ZX,ZY,ZZ,Z0,Z1,Z2,Z3,Z4,Z5,Z6,Z7,Z8,Z9,Ja,Jb,Jc,Jd,Je,Jf,Jg,Jh,Ji,Jj,Jk,Jl,Jm,Jn,Jo,Jp,Jq,Jr,Js,Jt,Ju,Jv,Jw,Jx,Jy,Jz,JA,JB,JC,JD,JE,JF,JG,JH,JI,JJ,JK,JL,JM,JN,JO,JP,JQ,JR,JS,JT,JU,JV,JW,JX,JY,JZ,J0,J1,J2,J3,J4,J5,J6,J7,J8,J9,Ka,Kb,Kc,Kd,Ke,Kf,Kg,Kh,Ki,Kj,Kk,Kl,Km,Kn,Ko,Kp,Kq,Kr,Ks,Kt,Ku,Kv,Kw,Kx,Ky,Kz,KA,KB,KC,KD,KE,KF,KG,KH,KI,KJ,KK,KL,KM,KN,KO,KP,KQ,KR,KS,KT,KU,KV,KW,KX,KY,KZ,K0,K1,K2,K3,K4,K5,K6,K7,K8,K9,Ga,Gb,Gc,Gd,Ge,Gf,Gg,Gh,Gi,Gj,Gk,Gl,Gm,Gn,Gp,Gq,Gr,Gs,Gt,Gu,Gv,Gw,Gx,Gy,Gz,GA,GB,GC,GD,GE,GF,GG,GH,GI,GJ,GK,GL,GM,GN,GO,GP,GQ,GR,GS,GT,Nat.le_refl,Nat.reduceLeDiff,List.drop_zero,us_take,us_drop,is_take,is_drop,List.take_zero,gn,if_true,if_false,Nat.reduceEqDiff,Int.reduceEq,reduceCtorEq,Nat.succ_ne_self,Nat.reduceAdd,Nat.zero_add,Nat.add_zero,Nat.reduceMul,Nat.mul_one,Nat.one_mul,Nat.zero_mul,Nat.sub_zero,decide_true,decide_false,Bool.and_self,Bool.and_true,Bool.true_and,Bool.false_and,Bool.and_false,Bool.not_true,Bool.not_false,List.length_cons,List.length_nil,us_len,is_len,tb_len,dl_len,us_set,is_set,tb_set,Nat.not_lt_zero,List.nil_append,us_rep,is_rep, l1, l2, l3]
    · simp only [tb_rep]; rfl
    · intro i hi
      obtain ⟨j, hj⟩ : ∃ s, s = i + q := ⟨_, rfl⟩
      obtain ⟨j1, hj1⟩ : ∃ s1, s1 = i + q + 1 := ⟨_, rfl⟩
      have l1 : decide ((i : Int) < (L : Int)) = true := by simp; omega
      have l2 : F (w64 ((i : Int) + 1)) ((i + 1 : Nat) : Int) := ⟨by unfold w64; omega⟩
      have l3 : F (w64 ((i : Int) + (q : Int))) (j : Int) := ⟨by unfold w64; omega⟩
      have l4 : F (w64 ((j : Int) + 1)) (j1 : Int) := ⟨by unfold w64; omega⟩
      have l5 := dga j (by omega)
      have l6 := dga j1 (by omega)
      have l7 := ixOf_nat hi
      have l8 : (i + 1 ≤ L) = True := by simp; omega
      have l9 := tb_step (n := L) (i := i) s 0
      have l10 : (a / 2 ^ (32 * j) % 2 ^ 32 ||| a / 2 ^ (32 * j1) % 2 ^ 32 * 2 ^ 32 % 2 ^ 64) / 2 ^ r % 2 ^ 32 = s i := by
        rw [hs, hj1]
        exact shr32 hk' (by omega) hj
      obtain ⟨x1, hx1⟩ : ∃ x, a / 2 ^ (32 * j) % 2 ^ 32 = x := ⟨_, rfl⟩
      obtain ⟨x2, hx2⟩ : ∃ x, a / 2 ^ (32 * j1) % 2 ^ 32 = x := ⟨_, rfl⟩
      rw [hx1] at l5 l10
      rw [hx2] at l6 l10
      obtain ⟨x3, hx3⟩ : ∃ x, (x1 ||| x2 * 2 ^ 32 % 2 ^ 64) = x := ⟨_, rfl⟩
      rw [hx3] at l10
      obtain ⟨x4, hx4⟩ : ∃ x, x3 / 2 ^ r = x := ⟨_, rfl⟩
      rw [hx4] at l10
      have l11 : (x4 &&& 4294967295) % 2 ^ 32 = s i := by rw [and32p, l10]; exact Nat.mod_eq_of_lt (by rw [← l10]; exact Nat.mod_lt _ (Nat.two_pow_pos 32))
      have l12 : F (min 32 64) 32 := ⟨rfl⟩
      simp only [Qa,Qb,Qc,Qd,Qe,Qf,Qg,Qh,Qi,Qj,Qk,Ql,Qm,Qn,Qo,Qp,Qq,Qr,Qs,Qt,Qu,Qv,Qw,Qx,Qy,Qz,QA,QB,QC,QD,QE,QF,QG,QH,QI,QJ,QK,QL,QM,QN,QO,QP,QQ,QR,QS,QT,QU,QV,QW,QX,QY,QZ,Q0,Q1,Q2,Q3,Q4,Q5,Q6,Q7,Q8,Q9,Xa,Xb,Xc,Xd,Xe,Xf,Xg,Xh,Xi,Xj,Xk,Xl,Xm,Xn,Xo,Xp,Xq,Xr,Xs,Xt,Xu,Xv,Xw,Xx,Xy,Xz,XA,XB,XC,XD,XE,XF,XG,XH,XI,XJ,XK,XL,XM,XN,XO,XP,XQ,XR,XS,XT,XU,XV,XW,XX,XY,XZ,X0,X1,X2,X3,X4,X5,X6,X7,X8,X9,Ya,Yb,Yc,Yd,Ye,Yf,Yg,Yh,Yi,Yj,Yk,Yl,Ym,Yn,Yo,Yp,Yq,Yr,Ys,Yt,Yu,Yv,Yw,Yx,Yy,Yz,YA,YB,YC,YD,YE,YF,YG,YH,YI,YJ,YK,YL,YM,YN,YO,YP,YQ,YR,YS,YT,YU,YV,YW,YX,YY,YZ,Y0,Y1,Y2,Y3,Y4,Y5,Y6,Y7,Y8,Y9,Za,Zb,Zc,Zd,Ze,Zf,Zg,Zh,Zi,Zj,Zk,Zl,Zm,Zn,Zo,Zp,Zq,Zr,Zs,Zt,Zu,Zv,Zw,Zx,Zy,Zz,ZA,ZB,ZC,ZD,ZE,ZF,ZG,ZH,ZI,ZJ,ZK,ZL,ZM,ZN,ZO,ZP,ZQ,ZR,ZS,ZT,ZU,ZV,ZW,ZX,ZY,ZZ,Z0,Z1,Z2,Z3,Z4,Z5,Z6,Z7,Z8,Z9,Ja,Jb,Jc,Jd,Je,Jf,Jg,Jh,Ji,Jj,Jk,Jl,Jm,Jn,Jo,Jp,Jq,Jr,Js,Jt,Ju,Jv,Jw,Jx,Jy,Jz,JA,JB,JC,JD,JE,JF,JG,JH,JI,JJ,JK,JL,JM,JN,JO,JP,JQ,JR,JS,JT,JU,JV,JW,JX,JY,JZ,J0,J1,J2,J3,J4,J5,J6,J7,J8,J9,Ka,Kb,Kc,Kd,Ke,Kf,Kg,Kh,Ki,Kj,Kk,Kl,Km,Kn,Ko,Kp,Kq,Kr,Ks,Kt,Ku,Kv,Kw,Kx,Ky,Kz,KA,KB,KC,KD,KE,KF,KG,KH,KI,KJ,KK,KL,KM,KN,KO,KP,KQ,KR,KS,KT,KU,KV,KW,KX,KY,KZ,K0,K1,K2,K3,K4,K5,K6,K7,K8,K9,Ga,Gb,Gc,Gd,Ge,Gf,Gg,Gh,Gi,Gj,Gk,Gl,Gm,Gn,Gp,Gq,Gr,Gs,Gt,Gu,Gv,Gw,Gx,Gy,Gz,GA,GB,GC,GD,GE,GF,GG,GH,GI,GJ,GK,GL,GM,GN,GO,GP,GQ,GR,GS,GT,Nat.le_refl,Nat.reduceLeDiff,List.drop_zero,us_take,us_drop,is_take,is_drop,List.take_zero,gn,if_true,if_false,Nat.reduceEqDiff,Int.reduceEq,reduceCtorEq,Nat.succ_ne_self,Nat.reduceAdd,Nat.zero_add,Nat.add_zero,Nat.reduceMul,Nat.mul_one,Nat.one_mul,Nat.zero_mul,Nat.sub_zero,decide_true,decide_false,Bool.and_self,Bool.and_true,Bool.true_and,Bool.false_and,Bool.and_false,Bool.not_true,Bool.not_false,List.length_cons,List.length_nil,us_len,is_len,tb_len,dl_len,us_set,is_set,tb_set,Nat.not_lt_zero,List.nil_append,us_rep,is_rep, e1, e3, k1, k2.eq, k3.eq, k9.eq, k10, l1, l2.eq, l3.eq, l4.eq, l5, l6, l7, l8, l9, hx3, hx4, l11, l12.eq, nha]
    · have l1 : decide ((L : Int) < (L : Int)) = false := by simp
      have l2 : tb L (fun j => if j < L then s j else 0) = dl 32 L (a / 2 ^ k) := tb_congr fun j hj => by rw [if_pos hj, hs]
      simp only [Qa,Qb,Qc,Qd,Qe,Qf,Qg,Qh,Qi,Qj,Qk,Ql,Qm,Qn,Qo,Qp,Qq,Qr,Qs,Qt,Qu,Qv,Qw,Qx,Qy,Qz,QA,QB,QC,QD,QE,QF,QG,QH,QI,QJ,QK,QL,QM,QN,QO,QP,QQ,QR,QS,QT,QU,QV,QW,QX,QY,QZ,Q0,Q1,Q2,Q3,Q4,Q5,Q6,Q7,Q8,Q9,Xa,Xb,Xc,Xd,Xe,Xf,Xg,Xh,Xi,Xj,Xk,Xl,Xm,Xn,Xo,Xp,Xq,Xr,Xs,Xt,Xu,Xv,Xw,Xx,Xy,Xz,XA,XB,XC,XD,XE,XF,XG,XH,XI,XJ,XK,XL,XM,XN,XO,XP,XQ,XR,XS,XT,XU,XV,XW,XX,XY,XZ,X0,X1,X2,X3,X4,X5,X6,X7,X8,X9,Ya,Yb,Yc,Yd,Ye,Yf,Yg,Yh,Yi,Yj,Yk,Yl,Ym,Yn,Yo,Yp,Yq,Yr,Ys,Yt,Yu,Yv,Yw,Yx,Yy,Yz,YA,YB,YC,YD,YE,YF,YG,YH,YI,YJ,YK,YL,YM,YN,YO,YP,YQ,YR,YS,YT,YU,YV,YW,YX,YY,YZ,Y0,Y1,Y2,Y3,Y4,Y5,Y6,Y7,Y8,Y9,Za,Zb,Zc,Zd,Ze,Zf,Zg,Zh,Zi,Zj,Zk,Zl,Zm,Zn,Zo,Zp,Zq,Zr,Zs,Zt,Zu,Zv,Zw,Zx,Zy,Zz,ZA,ZB,ZC,ZD,ZE,ZF,ZG,ZH,ZI,ZJ,ZK,ZL,ZM,ZN,ZO,ZP,ZQ,ZR,ZS,ZT,ZU,ZV,ZW,ZX,ZY,ZZ,Z0,Z1,Z2,Z3,Z4,Z5,Z6,Z7,Z8,Z9,Ja,Jb,Jc,Jd,Je,Jf,Jg,Jh,Ji,Jj,Jk,Jl,Jm,Jn,Jo,Jp,Jq,Jr,Js,Jt,Ju,Jv,Jw,Jx,Jy,Jz,JA,JB,JC,JD,JE,JF,JG,JH,JI,JJ,JK,JL,JM,JN,JO,JP,JQ,JR,JS,JT,JU,JV,JW,JX,JY,JZ,J0,J1,J2,J3,J4,J5,J6,J7,J8,J9,Ka,Kb,Kc,Kd,Ke,Kf,Kg,Kh,Ki,Kj,Kk,Kl,Km,Kn,Ko,Kp,Kq,Kr,Ks,Kt,Ku,Kv,Kw,Kx,Ky,Kz,KA,KB,KC,KD,KE,KF,KG,KH,KI,KJ,KK,KL,KM,KN,KO,KP,KQ,KR,KS,KT,KU,KV,KW,KX,KY,KZ,K0,K1,K2,K3,K4,K5,K6,K7,K8,K9,Ga,Gb,Gc,Gd,Ge,Gf,Gg,Gh,Gi,Gj,Gk,Gl,Gm,Gn,Gp,Gq,Gr,Gs,Gt,Gu,Gv,Gw,Gx,Gy,Gz,GA,GB,GC,GD,GE,GF,GG,GH,GI,GJ,GK,GL,GM,GN,GO,GP,GQ,GR,GS,GT,Nat.le_refl,Nat.reduceLeDiff,List.drop_zero,us_take,us_drop,is_take,is_drop,List.take_zero,gn,if_true,if_false,Nat.reduceEqDiff,Int.reduceEq,reduceCtorEq,Nat.succ_ne_self,Nat.reduceAdd,Nat.zero_add,Nat.add_zero,Nat.reduceMul,Nat.mul_one,Nat.one_mul,Nat.zero_mul,Nat.sub_zero,decide_true,decide_false,Bool.and_self,Bool.and_true,Bool.true_and,Bool.false_and,Bool.and_false,Bool.not_true,Bool.not_false,List.length_cons,List.length_nil,us_len,is_len,tb_len,dl_len,us_set,is_set,tb_set,Nat.not_lt_zero,List.nil_append,us_rep,is_rep, k10, l1, l2]

end Mir
