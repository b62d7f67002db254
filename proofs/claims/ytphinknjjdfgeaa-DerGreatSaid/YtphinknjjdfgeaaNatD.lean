/- Package nat: products. Conditions: none. -/
import Derived.Test.YtphinknjjdfgeaaNatC
set_option linter.unusedVariables false
set_option linter.unusedSimpArgs false
set_option exponentiation.threshold 5000
set_option maxRecDepth 20000
namespace Mir

theorem mul64_hi (a b : Nat) (ha : a < 2 ^ 64) (hb : b < 2 ^ 64) : ∀ a0 a1 b0 b1 : Nat, a0 = a % 4294967296 → a1 = a / 4294967296 → b0 = b % 4294967296 → b1 = b / 4294967296 →
    a0 * b0 < 2 ^ 64 ∧ a1 * b0 < 2 ^ 64 ∧ a0 * b1 < 2 ^ 64 ∧ a1 * b1 < 2 ^ 64 ∧ a1 * b0 + a0 * b0 / 2 ^ 32 < 2 ^ 64 ∧ (a1 * b0 + a0 * b0 / 2 ^ 32) % 4294967296 + a0 * b1 < 2 ^ 64 ∧
    a1 * b1 + (a1 * b0 + a0 * b0 / 2 ^ 32) / 2 ^ 32 < 2 ^ 64 ∧
    a1 * b1 + (a1 * b0 + a0 * b0 / 2 ^ 32) / 2 ^ 32 + ((a1 * b0 + a0 * b0 / 2 ^ 32) % 4294967296 + a0 * b1) / 2 ^ 32 = a * b / 2 ^ 64 ∧ a * b / 2 ^ 64 < 2 ^ 64 := by
  intro a0 a1 b0 b1 h1 h2 h3 h4
  have b1l : a0 ≤ 4294967295 := by omega
  have b2l : a1 ≤ 4294967295 := by omega
  have b3l : b0 ≤ 4294967295 := by omega
  have b4l : b1 ≤ 4294967295 := by omega
  have ea : a = a1 * 4294967296 + a0 := by omega
  have eb : b = b1 * 4294967296 + b0 := by omega
  have e : a * b = a1 * b1 * 18446744073709551616 + a1 * b0 * 4294967296 + a0 * b1 * 4294967296 + a0 * b0 := by
    rw [ea, eb, Nat.add_mul, Nat.mul_add, Nat.mul_add]
    have x1 : a1 * 4294967296 * (b1 * 4294967296) = a1 * b1 * 18446744073709551616 := by
      rw [Nat.mul_mul_mul_comm]
    have x2 : a1 * 4294967296 * b0 = a1 * b0 * 4294967296 := by rw [Nat.mul_right_comm]
    have x3 : a0 * (b1 * 4294967296) = a0 * b1 * 4294967296 := by rw [Nat.mul_assoc]
    rw [x1, x2, x3]
    omega
  have m1 : a0 * b0 ≤ 4294967295 * 4294967295 := Nat.mul_le_mul b1l b3l
  have m2 : a1 * b0 ≤ 4294967295 * 4294967295 := Nat.mul_le_mul b2l b3l
  have m3 : a0 * b1 ≤ 4294967295 * 4294967295 := Nat.mul_le_mul b1l b4l
  have m4 : a1 * b1 ≤ 4294967295 * 4294967295 := Nat.mul_le_mul b2l b4l
  have m5 : a * b ≤ 18446744073709551615 * 18446744073709551615 := Nat.mul_le_mul (by omega) (by omega)
  clear ea eb h1 h2 h3 h4 b1l b2l b3l b4l ha hb
  generalize a * b = ab at *
  generalize a0 * b0 = s at *
  generalize a1 * b0 = q at *
  generalize a0 * b1 = r at *
  generalize a1 * b1 = p at *
  refine ⟨by omega, by omega, by omega, by omega, by omega, by omega, by omega, by omega, by omega⟩

theorem r_Mul64 {a b : Nat} (ha : a < 2 ^ 64) (hb : b < 2 ^ 64) : Run T f_bits_Mul64 [.u 64 a, .u 64 b] [] = some (.tup [.u 64 (a * b / 2 ^ 64), .u 64 (a * b % 2 ^ 64)], []) := by
  rw [Run_at T _ (show T f_bits_Mul64 = some m_bits_Mul64 from rfl)]
  simp only [c_bits_Mul64]
  obtain ⟨a0, ha0⟩ : ∃ a0, a0 = a % 4294967296 := ⟨_, rfl⟩
  obtain ⟨a1, ha1⟩ : ∃ a1, a1 = a / 4294967296 := ⟨_, rfl⟩
  obtain ⟨b0, hb0⟩ : ∃ b0, b0 = b % 4294967296 := ⟨_, rfl⟩
  obtain ⟨b1, hb1⟩ : ∃ b1, b1 = b / 4294967296 := ⟨_, rfl⟩
  obtain ⟨t1, t2, t3, t4, t5, t6, t7, t8, t9⟩ := mul64_hi a b ha hb a0 a1 b0 b1 ha0 ha1 hb0 hb1
  have k1 : (a &&& 4294967295) = a0 := by rw [and32, ha0]
  have k2 : (b &&& 4294967295) = b0 := by rw [and32, hb0]
  have k3 : a / 2 ^ 32 = a1 := ha1.symm
  have k4 : b / 2 ^ 32 = b1 := hb1.symm
  have k5 : min 32 64 = 32 := rfl
  have k6 := Nat.mod_eq_of_lt t1
  have k7 := Nat.mod_eq_of_lt t2
  have k8 := Nat.mod_eq_of_lt t3
  have k9 := Nat.mod_eq_of_lt t4
  obtain ⟨p00, h00⟩ : ∃ p, p = a0 * b0 := ⟨_, rfl⟩
  obtain ⟨p10, h10⟩ : ∃ p, p = a1 * b0 := ⟨_, rfl⟩
  obtain ⟨p01, h01⟩ : ∃ p, p = a0 * b1 := ⟨_, rfl⟩
  obtain ⟨p11, h11⟩ : ∃ p, p = a1 * b1 := ⟨_, rfl⟩
  rw [← h00] at t1 t5 t6 t7 t8 k6
  rw [← h10] at t2 t5 t6 t7 t8 k7
  rw [← h01] at t3 t6 t8 k8
  rw [← h11] at t4 t7 t8 k9
  obtain ⟨s, hs⟩ : ∃ s, p00 / 2 ^ 32 = s := ⟨_, rfl⟩
  rw [hs] at t5 t6 t7 t8
  have k10 := Nat.mod_eq_of_lt t5
  obtain ⟨t, ht⟩ : ∃ t, t = p10 + s := ⟨_, rfl⟩
  rw [← ht] at t5 t6 t7 t8 k10
  have k11 : (t &&& 4294967295) = t % 4294967296 := and32 t
  obtain ⟨tl, htl⟩ : ∃ tl, t % 4294967296 = tl := ⟨_, rfl⟩
  obtain ⟨th, hth⟩ : ∃ th, t / 2 ^ 32 = th := ⟨_, rfl⟩
  rw [htl] at t6 t8 k11
  rw [hth] at t7 t8
  have k12 := Nat.mod_eq_of_lt t6
  have k13 := Nat.mod_eq_of_lt t7
  rw [← t8] at t9
  have k14 := Nat.mod_eq_of_lt t9
  rw [t8] at k14
  have hmul : ∀ u v : Nat, u * v = u * v := fun _ _ => rfl
  simp only [Qa,Qb,Qc,Qd,Qe,Qf,Qg,Qh,Qi,Qj,Qk,Ql,Qm,Qn,Qo,Qp,Qq,Qr,Qs,Qt,Qu,Qv,Qw,Qx,Qy,Qz,QA,QB,QC,QD,QE,QF,QG,QH,QI,QJ,QK,QL,QM,QN,QO,QP,QQ,QR,QS,QT,QU,QV,QW,QX,QY,QZ,Q0,Q1,Q2,Q3,Q4,Q5,Q6,Q7,Q8,Q9,Xa,Xb,Xc,Xd,Xe,Xf,Xg,Xh,Xi,Xj,Xk,Xl,Xm,Xn,Xo,Xp,Xq,Xr,Xs,Xt,Xu,Xv,Xw,Xx,Xy,Xz,XA,XB,XC,XD,XE,XF,XG,XH,XI,XJ,XK,XL,XM,XN,XO,XP,XQ,XR,XS,XT,XU,XV,XW,XX,XY,XZ,X0,X1,X2,X3,X4,X5,X6,X7,X8,X9,Ya,Yb,Yc,Yd,Ye,Yf,Yg,Yh,Yi,Yj,Yk,Yl,Ym,Yn,Yo,Yp,Yq,Yr,Ys,Yt,Yu,Yv,Yw,Yx,Yy,Yz,YA,YB,YC,YD,YE,YF,YG,YH,YI,YJ,YK,YL,YM,YN,YO,YP,YQ,YR,YS,YT,YU,YV,YW,YX,YY,YZ,Y0,Y1,Y2,Y3,Y4,Y5,Y6,Y7,Y8,Y9,Za,Zb,Zc,Zd,Ze,Zf,Zg,Zh,Zi,Zj,Zk,Zl,Zm,Zn,Zo,Zp,Zq,Zr,Zs,Zt,Zu,Zv,Zw,Zx,Zy,Zz,ZA,ZB,ZC,ZD,ZE,ZF,ZG,ZH,ZI,ZJ,ZK,ZL,ZM,ZN,ZO,ZP,ZQ,ZR,ZS,ZT,ZU,ZV,ZW,ZX,ZY,ZZ,Z0,Z1,Z2,Z3,Z4,Z5,Z6,Z7,Z8,Z9,Ja,Jb,Jc,Jd,Je,Jf,Jg,Jh,Ji,Jj,Jk,Jl,Jm,Jn,Jo,Jp,Jq,Jr,Js,Jt,Ju,Jv,Jw,Jx,Jy,Jz,JA,JB,JC,JD,JE,JF,JG,JH,JI,JJ,JK,JL,JM,JN,JO,JP,JQ,JR,JS,JT,JU,JV,JW,JX,JY,JZ,J0,J1,J2,J3,J4,J5,J6,J7,J8,J9,Ka,Kb,Kc,Kd,Ke,Kf,Kg,Kh,Ki,Kj,Kk,Kl,Km,Kn,Ko,Kp,Kq,Kr,Ks,Kt,Ku,Kv,Kw,Kx,Ky,Kz,KA,KB,KC,KD,KE,KF,KG,KH,KI,KJ,KK,KL,KM,KN,KO,KP,KQ,KR,KS,KT,KU,KV,KW,KX,KY,KZ,K0,K1,K2,K3,K4,K5,K6,K7,K8,K9,Ga,Gb,Gc,Gd,Ge,Gf,Gg,Gh,Gi,Gj,Gk,Gl,Gm,Gn,Gp,Gq,Gr,Gs,Gt,Gu,Gv,Gw,Gx,Gy,Gz,GA,GB,GC,GD,GE,GF,GG,GH,GI,GJ,GK,GL,GM,GN,GO,GP,GQ,GR,GS,GT,Nat.le_refl,Nat.reduceLeDiff,List.drop_zero,us_take,us_drop,is_take,is_drop,List.take_zero,gn,if_true,if_false,Nat.reduceEqDiff,Int.reduceEq,reduceCtorEq,Nat.succ_ne_self,Nat.reduceAdd,Nat.zero_add,Nat.add_zero,Nat.reduceMul,Nat.mul_one,Nat.one_mul,Nat.zero_mul,Nat.sub_zero,decide_true,decide_false,Bool.and_self,Bool.and_true,Bool.true_and,Bool.false_and,Bool.and_false,Bool.not_true,Bool.not_false,List.length_cons,List.length_nil,us_len,is_len,tb_len,dl_len,us_set,is_set,tb_set,Nat.not_lt_zero,List.nil_append,us_rep,is_rep, k1, k2, k3, k4, k5, ← h00, ← h10, ← h01, ← h11, k6, k7, k8, k9, hs, ← ht, k10, k11, hth, k12, k13, t8, k14]

/- ## Products, digit by digit -/

def mU (w x y i : Nat) : Nat := x % 2 ^ (w * i) * y
def mT (w x y i k : Nat) : Nat := mU w x y i + x / 2 ^ (w * i) % 2 ^ w * (y % 2 ^ (w * k)) * 2 ^ (w * i)
def mN (w x y i k : Nat) : Nat := mU w x y i % 2 ^ (w * (i + k)) + x / 2 ^ (w * i) % 2 ^ w * (y % 2 ^ (w * k)) * 2 ^ (w * i)
def mC (w x y i k : Nat) : Nat := mN w x y i k / 2 ^ (w * (i + k))

theorem mC_zero (w x y i : Nat) : mC w x y i 0 = 0 := by
  simp only [mC, mN, Nat.add_zero, Nat.mul_zero, Nat.pow_zero, Nat.mod_one, Nat.zero_mul]
  exact Nat.div_eq_of_lt (Nat.mod_lt _ (Nat.two_pow_pos _))

theorem pow_ik (w i k : Nat) : 2 ^ (w * (i + k)) = 2 ^ (w * i) * 2 ^ (w * k) := by rw [Nat.mul_add, Nat.pow_add]

theorem mN_step (w x y i k : Nat) : mN w x y i (k + 1) = mN w x y i k + 2 ^ (w * (i + k)) * (mU w x y i / 2 ^ (w * (i + k)) % 2 ^ w + x / 2 ^ (w * i) % 2 ^ w * (y / 2 ^ (w * k) % 2 ^ w)) := by
  have h1 := mod_step w (mU w x y i) (i + k)
  have h2 := mod_step w y k
  simp only [mN]
  rw [show i + (k + 1) = i + k + 1 from rfl, h1, h2, pow_ik w i k]
  generalize x / 2 ^ (w * i) % 2 ^ w = a
  generalize y / 2 ^ (w * k) % 2 ^ w = b
  generalize y % 2 ^ (w * k) = c
  generalize mU w x y i % (2 ^ (w * i) * 2 ^ (w * k)) = d
  generalize mU w x y i / (2 ^ (w * i) * 2 ^ (w * k)) % 2 ^ w = u
  generalize 2 ^ (w * i) = B
  generalize 2 ^ (w * k) = C
  rw [Nat.mul_add a, Nat.add_mul, Nat.mul_add (B * C)]
  have : a * (C * b) * B = B * C * (a * b) := by
    rw [Nat.mul_comm (a * (C * b)) B, Nat.mul_left_comm a C b, Nat.mul_assoc]
  omega

theorem mC_step (w x y i k : Nat) : (mC w x y i k + mU w x y i / 2 ^ (w * (i + k)) % 2 ^ w + x / 2 ^ (w * i) % 2 ^ w * (y / 2 ^ (w * k) % 2 ^ w)) / 2 ^ w = mC w x y i (k + 1) := by
  rw [mC, mC, mN_step, show i + (k + 1) = i + k + 1 from rfl, Nat.mul_succ, Nat.pow_add, ← Nat.div_div_eq_div_mul, Nat.add_mul_div_left _ _ (Nat.two_pow_pos _), Nat.add_assoc]

theorem mT_N (w x y i k : Nat) : mT w x y i k = mN w x y i k + 2 ^ (w * (i + k)) * (mU w x y i / 2 ^ (w * (i + k))) := by
  simp only [mT, mN]
  have := Nat.div_add_mod (mU w x y i) (2 ^ (w * (i + k)))
  omega

theorem mT_word (w x y i k : Nat) : (mC w x y i k + mU w x y i / 2 ^ (w * (i + k)) % 2 ^ w + x / 2 ^ (w * i) % 2 ^ w * (y / 2 ^ (w * k) % 2 ^ w)) % 2 ^ w = mT w x y i (k + 1) / 2 ^ (w * (i + k)) % 2 ^ w := by
  rw [mT_N, mN_step, mC, show i + (k + 1) = i + k + 1 from rfl, Nat.mul_succ, Nat.pow_add]
  have hB : 0 < 2 ^ (w * (i + k)) := Nat.two_pow_pos _
  generalize mU w x y i / 2 ^ (w * (i + k)) % 2 ^ w = u
  generalize x / 2 ^ (w * i) % 2 ^ w * (y / 2 ^ (w * k) % 2 ^ w) = v
  generalize mN w x y i k = N
  generalize mU w x y i / (2 ^ (w * (i + k)) * 2 ^ w) = z
  generalize 2 ^ (w * (i + k)) = B at *
  generalize 2 ^ w = W
  have e : N + B * (u + v) + B * W * z = N + B * (u + v + W * z) := by
    rw [Nat.mul_add B (u + v), Nat.mul_assoc, Nat.add_assoc]
  rw [e, Nat.add_mul_div_left _ _ hB, ← Nat.add_assoc, Nat.add_mul_mod_self_left, Nat.add_assoc]

theorem mT_low (w x y i k j : Nat) (hj : j < i + k) : mT w x y i (k + 1) / 2 ^ (w * j) % 2 ^ w = mT w x y i k / 2 ^ (w * j) % 2 ^ w := by
  have h : mT w x y i (k + 1) = mT w x y i k + 2 ^ (w * j) * (2 ^ w * (2 ^ (w * (i + k - j - 1)) * (x / 2 ^ (w * i) % 2 ^ w * (y / 2 ^ (w * k) % 2 ^ w)))) := by
    have e : 2 ^ (w * i) * 2 ^ (w * k) = 2 ^ (w * j) * (2 ^ w * 2 ^ (w * (i + k - j - 1))) := by
      rw [← Nat.pow_add, ← Nat.pow_add, ← Nat.pow_add]
      congr 1
      have : i + k = j + (1 + (i + k - j - 1)) := by omega
      rw [← Nat.mul_add]
      conv => lhs; rw [this, Nat.mul_add, Nat.mul_add, Nat.mul_one]
    simp only [mT]
    rw [mod_step w y k, Nat.mul_add (x / 2 ^ (w * i) % 2 ^ w), Nat.add_mul, ← Nat.add_assoc]
    congr 1
    rw [← Nat.mul_assoc (2 ^ w), ← Nat.mul_assoc (2 ^ (w * j)), ← e]
    generalize x / 2 ^ (w * i) % 2 ^ w = a
    generalize y / 2 ^ (w * k) % 2 ^ w = b
    generalize 2 ^ (w * i) = B
    generalize 2 ^ (w * k) = C
    rw [Nat.mul_comm (a * (C * b)) B, Nat.mul_left_comm a C b, Nat.mul_assoc]
  rw [h, Nat.add_mul_div_left _ _ (Nat.two_pow_pos _), Nat.add_mul_mod_self_left]

theorem mU_succ (w x y i n : Nat) (hy : y < 2 ^ (w * n)) : mT w x y i n = mU w x y (i + 1) := by
  simp only [mT, mU]
  rw [Nat.mod_eq_of_lt hy, mod_step w x i, Nat.add_mul]
  congr 1
  rw [Nat.mul_right_comm, Nat.mul_comm (x / 2 ^ (w * i) % 2 ^ w) (2 ^ (w * i))]

theorem mU_lt (w x y i n : Nat) (hy : y < 2 ^ (w * n)) : mU w x y i < 2 ^ (w * (i + n)) := by
  rw [pow_ik]
  exact Nat.mul_lt_mul'' (Nat.mod_lt _ (Nat.two_pow_pos _)) hy

theorem word_zero {w z j m : Nat} (h : z < 2 ^ (w * m)) (hj : m ≤ j) : z / 2 ^ (w * j) % 2 ^ w = 0 := by
  rw [Nat.div_eq_of_lt (Nat.lt_of_lt_of_le h (Nat.pow_le_pow_right (by omega) (Nat.mul_le_mul_left w hj))), Nat.zero_mod]

theorem mC_end (w x y i n : Nat) (hy : y < 2 ^ (w * n)) : mC w x y i n = mU w x y (i + 1) / 2 ^ (w * (i + n)) ∧ mC w x y i n = mU w x y (i + 1) / 2 ^ (w * (i + n)) % 2 ^ w := by
  have h1 := mU_lt w x y i n hy
  have h2 := mU_lt w x y (i + 1) n hy
  have h3 : mC w x y i n = mU w x y (i + 1) / 2 ^ (w * (i + n)) := by
    rw [← mU_succ w x y i n hy, mT_N, Nat.div_eq_of_lt h1, Nat.mul_zero, Nat.add_zero, mC]
  refine ⟨h3, ?_⟩
  rw [h3]
  refine (Nat.mod_eq_of_lt ?_).symm
  rw [Nat.div_lt_iff_lt_mul (Nat.two_pow_pos _), ← Nat.pow_add]
  have e : w + w * (i + n) = w * (i + 1 + n) := by rw [show i + 1 + n = i + n + 1 by omega, Nat.mul_succ]; omega
  rw [e]; exact h2

theorem mC_lt (w x y i k : Nat) : mC w x y i k < 2 ^ w := by
  rw [mC, Nat.div_lt_iff_lt_mul (Nat.two_pow_pos _), mN]
  have h1 : mU w x y i % 2 ^ (w * (i + k)) < 2 ^ (w * (i + k)) := Nat.mod_lt _ (Nat.two_pow_pos _)
  have hx : x / 2 ^ (w * i) % 2 ^ w < 2 ^ w := Nat.mod_lt _ (Nat.two_pow_pos _)
  have hy : y % 2 ^ (w * k) < 2 ^ (w * k) := Nat.mod_lt _ (Nat.two_pow_pos _)
  have hW : 0 < 2 ^ w := Nat.two_pow_pos _
  generalize x / 2 ^ (w * i) % 2 ^ w = a at *
  generalize y % 2 ^ (w * k) = b at *
  have h2 : a * b * 2 ^ (w * i) ≤ (2 ^ w - 1) * 2 ^ (w * k) * 2 ^ (w * i) := Nat.mul_le_mul_right _ (Nat.mul_le_mul (by omega) (by omega))
  have h3 : (2 ^ w - 1) * 2 ^ (w * k) * 2 ^ (w * i) = (2 ^ w - 1) * 2 ^ (w * (i + k)) := by rw [pow_ik, Nat.mul_assoc, Nat.mul_comm (2 ^ (w * k))]
  rw [h3, Nat.sub_mul, Nat.one_mul] at h2
  have h4 : 1 * 2 ^ (w * (i + k)) ≤ 2 ^ w * 2 ^ (w * (i + k)) := Nat.mul_le_mul_right _ hW
  omega

theorem mul_word {ab u c : Nat} (hab : ab ≤ 18446744073709551615 * 18446744073709551615) (hu : u < 2 ^ 64) (hc : c < 2 ^ 64) :
    ((ab % 2 ^ 64 + u) % 2 ^ 64 + c) % 2 ^ 64 = (c + u + ab) % 2 ^ 64 ∧ ((ab / 2 ^ 64 + (ab % 2 ^ 64 + u) / 2 ^ 64) % 2 ^ 64 + ((ab % 2 ^ 64 + u) % 2 ^ 64 + c) / 2 ^ 64) % 2 ^ 64 = (c + u + ab) / 2 ^ 64 := by
  constructor <;> omega

abbrev widev (x : Nat) : V := .agg (us 64 (dl 64 18 x))
theorem widev_noHp (x k : Nat) : noHp (k + 2) (widev x) = true := by simp only [widev, noHp]; exact us_noHp 64 k _
theorem zero18 : [V.u 64 0, V.u 64 0, V.u 64 0, V.u 64 0, V.u 64 0, V.u 64 0, V.u 64 0, V.u 64 0, V.u 64 0, V.u 64 0, V.u 64 0, V.u 64 0, V.u 64 0, V.u 64 0, V.u 64 0, V.u 64 0, V.u 64 0, V.u 64 0] = us 64 (dl 64 18 0) := rfl
theorem part_tb {n w : Nat} (f : Nat → Nat) (i : Nat) (hi : i < n) : part (us w (tb n f)) i none = some (.u w (f i)) := by simp only [part]; exact us_get (tb_get hi)
theorem nw_lt {x : Nat} (hx : x < M) : x < 2 ^ (64 * nw x) := by
  have := nw_top hx 0
  rw [Nat.add_zero, Nat.div_eq_zero_iff_lt (Nat.two_pow_pos _)] at this
  exact this

theorem r_natMul {x y : Nat} (hx : x < M) (hy : y < M) : Run T f_nat_Mul [natv x, natv y] [] = some (widev (x * y), []) := by
  rw [Run_at T _ (show T f_nat_Mul = some m_nat_Mul from rfl)]
  simp only [c_nat_Mul, zero18]
  obtain ⟨m, hm⟩ : ∃ m, m = nw x := ⟨_, rfl⟩
  obtain ⟨n, hn⟩ : ∃ n, n = nw y := ⟨_, rfl⟩
  have c1 := r_used x
  have c2 := r_used y
  rw [← hm] at c1
  rw [← hn] at c2
  have hm9 : m ≤ 9 := by rw [hm]; exact nw_le x
  have hn9 : n ≤ 9 := by rw [hn]; exact nw_le y
  have hyn : y < 2 ^ (64 * n) := by rw [hn]; exact nw_lt hy
  have hxm : x < 2 ^ (64 * m) := by rw [hm]; exact nw_lt hx
  obtain ⟨p, hp⟩ : ∃ p : Nat → Nat, ∀ i, p i = x / 2 ^ (64 * i) % 2 ^ 64 := ⟨_, fun _ => rfl⟩
  obtain ⟨q, hq⟩ : ∃ q : Nat → Nat, ∀ i, q i = y / 2 ^ (64 * i) % 2 ^ 64 := ⟨_, fun _ => rfl⟩
  obtain ⟨U, hU⟩ : ∃ U : Nat → Nat → Nat, ∀ i j, U i j = mU 64 x y i / 2 ^ (64 * j) % 2 ^ 64 := ⟨_, fun _ _ => rfl⟩
  obtain ⟨W, hW⟩ : ∃ W : Nat → Nat → Nat → Nat, ∀ i k j, W i k j = mT 64 x y i k / 2 ^ (64 * j) % 2 ^ 64 := ⟨_, fun _ _ _ => rfl⟩
  obtain ⟨c, hc⟩ : ∃ c : Nat → Nat → Nat, ∀ i k, c i k = mC 64 x y i k := ⟨_, fun _ _ => rfl⟩
  have hl : dl 64 9 x = tb 9 p := tb_congr fun j hj => (hp j).symm
  have hl2 : dl 64 9 y = tb 9 q := tb_congr fun j hj => (hq j).symm
  simp only [natv, hl, hl2]
  rw [hl] at c1
  rw [hl2] at c2
  have hpl : ∀ i, p i < 2 ^ 64 := fun i => by rw [hp]; exact Nat.mod_lt _ (Nat.two_pow_pos 64)
  have hql : ∀ i, q i < 2 ^ 64 := fun i => by rw [hq]; exact Nat.mod_lt _ (Nat.two_pow_pos 64)
  have hnv : ∀ k (f : Nat → Nat), noHp (k + 1 + 1) (.vr (us 64 (tb 9 f)) 0) = true := fun k f => Gv k 64 0 _
  simp only [Qa,Qb,Qc,Qd,Qe,Qf,Qg,Qh,Qi,Qj,Qk,Ql,Qm,Qn,Qo,Qp,Qq,Qr,Qs,Qt,Qu,Qv,Qw,Qx,Qy,Qz,QA,QB,QC,QD,QE,QF,QG,QH,QI,QJ,QK,QL,QM,QN,QO,QP,QQ,QR,QS,QT,QU,QV,QW,QX,QY,QZ,Q0,Q1,Q2,Q3,Q4,Q5,Q6,Q7,Q8,Q9,Xa,Xb,Xc,Xd,Xe,Xf,Xg,Xh,Xi,Xj,Xk,Xl,Xm,Xn,Xo,Xp,Xq,Xr,Xs,Xt,Xu,Xv,Xw,Xx,Xy,Xz,XA,XB,XC,XD,XE,XF,XG,XH,XI,XJ,XK,XL,XM,XN,XO,XP,XQ,XR,XS,XT,XU,XV,XW,XX,XY,XZ,X0,X1,X2,X3,X4,X5,X6,X7,X8,X9,Ya,Yb,Yc,Yd,Ye,Yf,Yg,Yh,Yi,Yj,Yk,Yl,Ym,Yn,Yo,Yp,Yq,Yr,Ys,Yt,Yu,Yv,Yw,Yx,Yy,Yz,YA,YB,YC,YD,YE,YF,YG,YH,YI,YJ,YK,YL,YM,YN,YO,YP,YQ,YR,YS,YT,YU,YV,YW,YX,YY,YZ,Y0,Y1,Y2,Y3,Y4,Y5,Y6,Y7,Y8,Y9,Za,Zb,Zc,Zd,Ze,Zf,Zg,Zh,Zi,Zj,Zk,Zl,Zm,Zn,Zo,Zp,Zq,Zr,Zs,Zt,Zu,Zv,Zw,Zx,Zy,Zz,ZA,ZB,ZC,ZD,ZE,ZF,ZG,ZH,ZI,ZJ,ZK,ZL,ZM,ZN,ZO,ZP,ZQ,ZR,ZS,ZT,ZU,ZV,ZW,ZX,ZY,ZZ,Z0,Z1,Z2,Z3,Z4,Z5,Z6,Z7,Z8,Z9,Ja,Jb,Jc,Jd,Je,Jf,Jg,Jh,Ji,Jj,Jk,Jl,Jm,Jn,Jo,Jp,Jq,Jr,Js,Jt,Ju,Jv,Jw,Jx,Jy,Jz,JA,JB,JC,JD,JE,JF,JG,JH,JI,JJ,JK,JL,JM,JN,JO,JP,JQ,JR,JS,JT,JU,JV,JW,JX,JY,JZ,J0,J1,J2,J3,J4,J5,J6,J7,J8,J9,Ka,Kb,Kc,Kd,Ke,Kf,Kg,Kh,Ki,Kj,Kk,Kl,Km,Kn,Ko,Kp,Kq,Kr,Ks,Kt,Ku,Kv,Kw,Kx,Ky,Kz,KA,KB,KC,KD,KE,KF,KG,KH,KI,KJ,KK,KL,KM,KN,KO,KP,KQ,KR,KS,KT,KU,KV,KW,KX,KY,KZ,K0,K1,K2,K3,K4,K5,K6,K7,K8,K9,Ga,Gb,Gc,Gd,Ge,Gf,Gg,Gh,Gi,Gj,Gk,Gl,Gm,Gn,Gp,Gq,Gr,Gs,Gt,Gu,Gv,Gw,Gx,Gy,Gz,GA,GB,GC,GD,GE,GF,GG,GH,GI,GJ,GK,GL,GM,GN,GO,GP,GQ,GR,GS,GT,Nat.le_refl,Nat.reduceLeDiff,List.drop_zero,us_take,us_drop,is_take,is_drop,List.take_zero,gn,if_true,if_false,Nat.reduceEqDiff,Int.reduceEq,reduceCtorEq,Nat.succ_ne_self,Nat.reduceAdd,Nat.zero_add,Nat.add_zero,Nat.reduceMul,Nat.mul_one,Nat.one_mul,Nat.zero_mul,Nat.sub_zero,decide_true,decide_false,Bool.and_self,Bool.and_true,Bool.true_and,Bool.false_and,Bool.and_false,Bool.not_true,Bool.not_false,List.length_cons,List.length_nil,us_len,is_len,tb_len,dl_len,us_set,is_set,tb_set,Nat.not_lt_zero,List.nil_append,us_rep,is_rep, c1, c2]
  rw [loop_use T (fun i => ⟨[(2, .vr (us 64 (tb 9 p)) 0), (3, .vr (us 64 (tb 9 q)) 0), (4, .loc (us 64 (dl 64 18 0))), (5, .loc (us 64 (tb 18 fun j => U i j))), (7, .i (n : Int)), (16, .i (m : Int)), (17, .i (i : Int))], []⟩) m
    (.exit 0, ⟨[(4, .loc (us 64 (dl 64 18 0))), (5, .loc (us 64 (tb 18 fun j => U m j)))], []⟩) ?h0 (by simp) ?hs ?hn]
  · have k1 : tb 18 (fun j => U m j) = dl 64 18 (x * y) := tb_congr fun j hj => by rw [hU, mU, Nat.mod_eq_of_lt hxm]
    simp only [Qa,Qb,Qc,Qd,Qe,Qf,Qg,Qh,Qi,Qj,Qk,Ql,Qm,Qn,Qo,Qp,Qq,Qr,Qs,Qt,Qu,Qv,Qw,Qx,Qy,Qz,QA,QB,QC,QD,QE,QF,QG,QH,QI,QJ,QK,QL,QM,QN,QO,QP,QQ,QR,QS,QT,QU,QV,QW,QX,QY,QZ,Q0,Q1,Q2,Q3,Q4,Q5,Q6,Q7,Q8,Q9,Xa,Xb,Xc,Xd,Xe,Xf,Xg,Xh,Xi,Xj,Xk,Xl,Xm,Xn,Xo,Xp,Xq,Xr,Xs,Xt,Xu,Xv,Xw,Xx,Xy,Xz,XA,XB,XC,XD,XE,XF,XG,XH,XI,XJ,XK,XL,XM,XN,XO,XP,XQ,XR,XS,XT,XU,XV,XW,XX,XY,XZ,X0,X1,X2,X3,X4,X5,X6,X7,X8,X9,Ya,Yb,Yc,Yd,Ye,Yf,Yg,Yh,Yi,Yj,Yk,Yl,Ym,Yn,Yo,Yp,Yq,Yr,Ys,Yt,Yu,Yv,Yw,Yx,Yy,Yz,YA,YB,YC,YD,YE,YF,YG,YH,YI,YJ,YK,YL,YM,YN,YO,YP,YQ,YR,YS,YT,YU,YV,YW,YX,YY,YZ,Y0,Y1,Y2,Y3,Y4,Y5,Y6,Y7,Y8,Y9,Za,Zb,Zc,Zd,Ze,Zf,Zg,Zh,Zi,Zj,Zk,Zl,Zm,Zn,Zo,Zp,Zq,Zr,Zs,Zt,Zu,Zv,Zw,Zx,Zy,Zz,ZA,ZB,ZC,ZD,ZE,ZF,ZG,ZH,ZI,ZJ,ZK,ZL,ZM,ZN,ZO,ZP,ZQ,ZR,ZS,ZT,ZU,ZV,ZW,ZX,ZY,ZZ,Z0,Z1,Z2,Z3,Z4,Z5,Z6,Z7,Z8,Z9,Ja,Jb,Jc,Jd,Je,Jf,Jg,Jh,Ji,Jj,Jk,Jl,Jm,Jn,Jo,Jp,Jq,Jr,Js,Jt,Ju,Jv,Jw,Jx,Jy,Jz,JA,JB,JC,JD,JE,JF,JG,JH,JI,JJ,JK,JL,JM,JN,JO,JP,JQ,JR,JS,JT,JU,JV,JW,JX,JY,JZ,J0,J1,J2,J3,J4,J5,J6,J7,J8,J9,Ka,Kb,Kc,Kd,Ke,Kf,Kg,Kh,Ki,Kj,Kk,Kl,Km,Kn,Ko,Kp,Kq,Kr,Ks,Kt,Ku,Kv,Kw,Kx,Ky,Kz,KA,KB,KC,KD,KE,KF,KG,KH,KI,KJ,KK,KL,KM,KN,KO,KP,KQ,KR,KS,KT,KU,KV,KW,KX,KY,KZ,K0,K1,K2,K3,K4,K5,K6,K7,K8,K9,Ga,Gb,Gc,Gd,Ge,Gf,Gg,Gh,Gi,Gj,Gk,Gl,Gm,Gn,Gp,Gq,Gr,Gs,Gt,Gu,Gv,Gw,Gx,Gy,Gz,GA,GB,GC,GD,GE,GF,GG,GH,GI,GJ,GK,GL,GM,GN,GO,GP,GQ,GR,GS,GT,Nat.le_refl,Nat.reduceLeDiff,List.drop_zero,us_take,us_drop,is_take,is_drop,List.take_zero,gn,if_true,if_false,Nat.reduceEqDiff,Int.reduceEq,reduceCtorEq,Nat.succ_ne_self,Nat.reduceAdd,Nat.zero_add,Nat.add_zero,Nat.reduceMul,Nat.mul_one,Nat.one_mul,Nat.zero_mul,Nat.sub_zero,decide_true,decide_false,Bool.and_self,Bool.and_true,Bool.true_and,Bool.false_and,Bool.and_false,Bool.not_true,Bool.not_false,List.length_cons,List.length_nil,us_len,is_len,tb_len,dl_len,us_set,is_set,tb_set,Nat.not_lt_zero,List.nil_append,us_rep,is_rep, k1]
  · have : dl 64 18 0 = tb 18 (fun j => U 0 j) := tb_congr fun j hj => by rw [hU, mU]; simp [Nat.mod_one]
    rw [← this]; rfl
  · intro i hi
    have k1 : decide ((i : Int) < (m : Int)) = true := by simp; omega
    obtain ⟨i1, hi1⟩ : ∃ i1, i1 = i + 1 := ⟨_, rfl⟩
    have k2 : F (w64 ((i : Int) + 1)) (i1 : Int) := ⟨by unfold w64; omega⟩
    have hi9 : i < 9 := by omega
    have hin : i + n < 18 := by omega
    simp only [Qa,Qb,Qc,Qd,Qe,Qf,Qg,Qh,Qi,Qj,Qk,Ql,Qm,Qn,Qo,Qp,Qq,Qr,Qs,Qt,Qu,Qv,Qw,Qx,Qy,Qz,QA,QB,QC,QD,QE,QF,QG,QH,QI,QJ,QK,QL,QM,QN,QO,QP,QQ,QR,QS,QT,QU,QV,QW,QX,QY,QZ,Q0,Q1,Q2,Q3,Q4,Q5,Q6,Q7,Q8,Q9,Xa,Xb,Xc,Xd,Xe,Xf,Xg,Xh,Xi,Xj,Xk,Xl,Xm,Xn,Xo,Xp,Xq,Xr,Xs,Xt,Xu,Xv,Xw,Xx,Xy,Xz,XA,XB,XC,XD,XE,XF,XG,XH,XI,XJ,XK,XL,XM,XN,XO,XP,XQ,XR,XS,XT,XU,XV,XW,XX,XY,XZ,X0,X1,X2,X3,X4,X5,X6,X7,X8,X9,Ya,Yb,Yc,Yd,Ye,Yf,Yg,Yh,Yi,Yj,Yk,Yl,Ym,Yn,Yo,Yp,Yq,Yr,Ys,Yt,Yu,Yv,Yw,Yx,Yy,Yz,YA,YB,YC,YD,YE,YF,YG,YH,YI,YJ,YK,YL,YM,YN,YO,YP,YQ,YR,YS,YT,YU,YV,YW,YX,YY,YZ,Y0,Y1,Y2,Y3,Y4,Y5,Y6,Y7,Y8,Y9,Za,Zb,Zc,Zd,Ze,Zf,Zg,Zh,Zi,Zj,Zk,Zl,Zm,Zn,Zo,Zp,Zq,Zr,Zs,Zt,Zu,Zv,Zw,Zx,Zy,Zz,ZA,ZB,ZC,ZD,ZE,ZF,ZG,ZH,ZI,ZJ,ZK,ZL,ZM,ZN,ZO,ZP,ZQ,ZR,ZS,ZT,ZU,ZV,ZW,ZX,ZY,ZZ,Z0,Z1,Z2,Z3,Z4,Z5,Z6,Z7,Z8,Z9,Ja,Jb,Jc,Jd,Je,Jf,Jg,Jh,Ji,Jj,Jk,Jl,Jm,Jn,Jo,Jp,Jq,Jr,Js,Jt,Ju,Jv,Jw,Jx,Jy,Jz,JA,JB,JC,JD,JE,JF,JG,JH,JI,JJ,JK,JL,JM,JN,JO,JP,JQ,JR,JS,JT,JU,JV,JW,JX,JY,JZ,J0,J1,J2,J3,J4,J5,J6,J7,J8,J9,Ka,Kb,Kc,Kd,Ke,Kf,Kg,Kh,Ki,Kj,Kk,Kl,Km,Kn,Ko,Kp,Kq,Kr,Ks,Kt,Ku,Kv,Kw,Kx,Ky,Kz,KA,KB,KC,KD,KE,KF,KG,KH,KI,KJ,KK,KL,KM,KN,KO,KP,KQ,KR,KS,KT,KU,KV,KW,KX,KY,KZ,K0,K1,K2,K3,K4,K5,K6,K7,K8,K9,Ga,Gb,Gc,Gd,Ge,Gf,Gg,Gh,Gi,Gj,Gk,Gl,Gm,Gn,Gp,Gq,Gr,Gs,Gt,Gu,Gv,Gw,Gx,Gy,Gz,GA,GB,GC,GD,GE,GF,GG,GH,GI,GJ,GK,GL,GM,GN,GO,GP,GQ,GR,GS,GT,Nat.le_refl,Nat.reduceLeDiff,List.drop_zero,us_take,us_drop,is_take,is_drop,List.take_zero,gn,if_true,if_false,Nat.reduceEqDiff,Int.reduceEq,reduceCtorEq,Nat.succ_ne_self,Nat.reduceAdd,Nat.zero_add,Nat.add_zero,Nat.reduceMul,Nat.mul_one,Nat.one_mul,Nat.zero_mul,Nat.sub_zero,decide_true,decide_false,Bool.and_self,Bool.and_true,Bool.true_and,Bool.false_and,Bool.and_false,Bool.not_true,Bool.not_false,List.length_cons,List.length_nil,us_len,is_len,tb_len,dl_len,us_set,is_set,tb_set,Nat.not_lt_zero,List.nil_append,us_rep,is_rep, k1]
    rw [loop_use T (fun k => ⟨[(2, .vr (us 64 (tb 9 p)) 0), (3, .vr (us 64 (tb 9 q)) 0), (4, .loc (us 64 (dl 64 18 0))), (5, .loc (us 64 (tb 18 fun j => if j < i + k then W i k j else U i j))), (7, .i (n : Int)), (8, .i (i : Int)), (9, .u 64 (c i k)), (16, .i (m : Int)), (17, .i (i : Int)), (20, .i (n : Int)), (21, .i (k : Int))], []⟩) n
      (.exit 2, ⟨[(2, .vr (us 64 (tb 9 p)) 0), (3, .vr (us 64 (tb 9 q)) 0), (4, .loc (us 64 (dl 64 18 0))), (5, .loc (us 64 (tb 18 fun j => if j < i + n then W i n j else U i j))), (7, .i (n : Int)), (8, .i (i : Int)), (9, .u 64 (c i n)), (16, .i (m : Int)), (17, .i (i : Int))], []⟩) ?g0 (by simp) ?gs ?gn]
    · obtain ⟨s, hs⟩ : ∃ s, s = i + n := ⟨_, rfl⟩
      have k3 : F (w64 ((i : Int) + (n : Int))) (s : Int) := ⟨by rw [hs]; unfold w64; omega⟩
      have k4 := ixOf_nat (show s < 18 by omega)
      have k5 : (s + 1 ≤ 18) = True := by simp; omega
      have k6 : tb 18 (fun j => if j = s then c i n else if j < s then W i n j else U i j) = tb 18 (fun j => U i1 j) := tb_congr fun j hj => by
        obtain ⟨e1, e2⟩ := mC_end 64 x y i n hyn
        by_cases h : j = s
        · rw [if_pos h, hc, hU, hi1, h, hs]; exact e2
        · rw [if_neg h]
          by_cases h2 : j < s
          · rw [if_pos h2, hW, hU, mU_succ 64 x y i n hyn, hi1]
          · rw [if_neg h2, hU, hU, word_zero (mU_lt 64 x y i n hyn) (by omega), word_zero (mU_lt 64 x y i1 n hyn) (by omega)]
      rw [← hs, ← hi1]
      simp only [Qa,Qb,Qc,Qd,Qe,Qf,Qg,Qh,Qi,Qj,Qk,Ql,Qm,Qn,Qo,Qp,Qq,Qr,Qs,Qt,Qu,Qv,Qw,Qx,Qy,Qz,QA,QB,QC,QD,QE,QF,QG,QH,QI,QJ,QK,QL,QM,QN,QO,QP,QQ,QR,QS,QT,QU,QV,QW,QX,QY,QZ,Q0,Q1,Q2,Q3,Q4,Q5,Q6,Q7,Q8,Q9,Xa,Xb,Xc,Xd,Xe,Xf,Xg,Xh,Xi,Xj,Xk,Xl,Xm,Xn,Xo,Xp,Xq,Xr,Xs,Xt,Xu,Xv,Xw,Xx,Xy,Xz,XA,XB,XC,XD,XE,XF,XG,XH,XI,XJ,XK,XL,XM,XN,XO,XP,XQ,XR,XS,XT,XU,XV,XW,XX,XY,XZ,X0,X1,X2,X3,X4,X5,X6,X7,X8,X9,Ya,Yb,Yc,Yd,Ye,Yf,Yg,Yh,Yi,Yj,Yk,Yl,Ym,Yn,Yo,Yp,Yq,Yr,Ys,Yt,Yu,Yv,Yw,Yx,Yy,Yz,YA,YB,YC,YD,YE,YF,YG,YH,YI,YJ,YK,YL,YM,YN,YO,YP,YQ,YR,YS,YT,YU,YV,YW,YX,YY,YZ,Y0,Y1,Y2,Y3,Y4,Y5,Y6,Y7,Y8,Y9,Za,Zb,Zc,Zd,Ze,Zf,Zg,Zh,Zi,Zj,Zk,Zl,Zm,Zn,Zo,Zp,Zq,Zr,Zs,Zt,Zu,Zv,Zw,Zx,Zy,Zz,ZA,ZB,ZC,ZD,ZE,ZF,ZG,ZH,ZI,ZJ,ZK,ZL,ZM,ZN,ZO,ZP,ZQ,ZR,ZS,ZT,ZU,ZV,ZW,ZX,ZY,ZZ,Z0,Z1,Z2,Z3,Z4,Z5,Z6,Z7,Z8,Z9,Ja,Jb,Jc,Jd,Je,Jf,Jg,Jh,Ji,Jj,Jk,Jl,Jm,Jn,Jo,Jp,Jq,Jr,Js,Jt,Ju,Jv,Jw,Jx,Jy,Jz,JA,JB,JC,JD,JE,JF,JG,JH,JI,JJ,JK,JL,JM,JN,JO,JP,JQ,JR,JS,JT,JU,JV,JW,JX,JY,JZ,J0,J1,J2,J3,J4,J5,J6,J7,J8,J9,Ka,Kb,Kc,Kd,Ke,Kf,Kg,Kh,Ki,Kj,Kk,Kl,Km,Kn,Ko,Kp,Kq,Kr,Ks,Kt,Ku,Kv,Kw,Kx,Ky,Kz,KA,KB,KC,KD,KE,KF,KG,KH,KI,KJ,KK,KL,KM,KN,KO,KP,KQ,KR,KS,KT,KU,KV,KW,KX,KY,KZ,K0,K1,K2,K3,K4,K5,K6,K7,K8,K9,Ga,Gb,Gc,Gd,Ge,Gf,Gg,Gh,Gi,Gj,Gk,Gl,Gm,Gn,Gp,Gq,Gr,Gs,Gt,Gu,Gv,Gw,Gx,Gy,Gz,GA,GB,GC,GD,GE,GF,GG,GH,GI,GJ,GK,GL,GM,GN,GO,GP,GQ,GR,GS,GT,Nat.le_refl,Nat.reduceLeDiff,List.drop_zero,us_take,us_drop,is_take,is_drop,List.take_zero,gn,if_true,if_false,Nat.reduceEqDiff,Int.reduceEq,reduceCtorEq,Nat.succ_ne_self,Nat.reduceAdd,Nat.zero_add,Nat.add_zero,Nat.reduceMul,Nat.mul_one,Nat.one_mul,Nat.zero_mul,Nat.sub_zero,decide_true,decide_false,Bool.and_self,Bool.and_true,Bool.true_and,Bool.false_and,Bool.and_false,Bool.not_true,Bool.not_false,List.length_cons,List.length_nil,us_len,is_len,tb_len,dl_len,us_set,is_set,tb_set,Nat.not_lt_zero,List.nil_append,us_rep,is_rep, k2.eq, k3.eq, k4, k5, k6]
    · have e1 : tb 18 (fun j => U i j) = tb 18 (fun j => if j < i + 0 then W i 0 j else U i j) := tb_congr fun j hj => by
        by_cases h : j < i + 0
        · rw [if_pos h, hU, hW, mT, Nat.mul_zero, Nat.pow_zero, Nat.mod_one, Nat.mul_zero, Nat.zero_mul, Nat.add_zero]
        · rw [if_neg h]
      have e2 : c i 0 = 0 := by rw [hc, mC_zero]
      rw [e1]; simp only [e2]; rfl
    · intro k hk
      obtain ⟨s, hs⟩ : ∃ s, s = i + k := ⟨_, rfl⟩
      obtain ⟨s1, hs1⟩ : ∃ s1, s1 = i + (k + 1) := ⟨_, rfl⟩
      obtain ⟨k', hk'⟩ : ∃ k', k' = k + 1 := ⟨_, rfl⟩
      have hs18 : s < 18 := by omega
      have l1 : decide ((k : Int) < (n : Int)) = true := by simp; omega
      have l2 := ixOf_nat hi9
      have l3 := ixOf_nat (show k < 9 by omega)
      have l4 := part_tb (w := 64) p i hi9
      have l5 := part_tb (w := 64) q k (show k < 9 by omega)
      have l6 := r_Mul64 (hpl i) (hql k)
      have l7 : F (w64 ((i : Int) + (k : Int))) (s : Int) := ⟨by rw [hs]; unfold w64; omega⟩
      have l8 := ixOf_nat hs18
      have l9 := part_tb (w := 64) (fun j => if j < s then W i k j else U i j) s hs18
      rw [if_neg (Nat.lt_irrefl s)] at l9
      have l10 : F (w64 ((k : Int) + 1)) (k' : Int) := ⟨by rw [hk']; unfold w64; omega⟩
      have l11 : (s + 1 ≤ 18) = True := by simp; omega
      have hab : p i * q k ≤ 18446744073709551615 * 18446744073709551615 := Nat.mul_le_mul (by have := hpl i; omega) (by have := hql k; omega)
      have hul : U i s < 2 ^ 64 := by rw [hU]; exact Nat.mod_lt _ (Nat.two_pow_pos 64)
      have hcl : c i k < 2 ^ 64 := by rw [hc]; exact mC_lt 64 x y i k
      obtain ⟨w1, w2⟩ := mul_word hab hul hcl
      have w3 : (c i k + U i s + p i * q k) % 2 ^ 64 = W i k' s := by rw [hc, hU, hp, hq, hW, hs, hk']; exact mT_word 64 x y i k
      have w4 : (c i k + U i s + p i * q k) / 2 ^ 64 = c i k' := by rw [hc, hU, hp, hq, hc, hs, hk']; exact mC_step 64 x y i k
      rw [w3] at w1
      rw [w4] at w2
      have l12 : tb 18 (fun j => if j = s then W i k' s else if j < s then W i k j else U i j) = tb 18 (fun j => if j < s1 then W i k' j else U i j) := tb_congr fun j hj => by
        by_cases h : j = s
        · rw [if_pos h, if_pos (by omega), h]
        · rw [if_neg h]
          by_cases h2 : j < s
          · rw [if_pos h2, if_pos (by omega), hW, hW, hk', mT_low 64 x y i k j (by omega)]
          · rw [if_neg h2, if_neg (by omega)]
      obtain ⟨ab, hab'⟩ : ∃ ab, ab = p i * q k := ⟨_, rfl⟩
      rw [← hab'] at l6 w1 w2
      obtain ⟨hh, hhh⟩ : ∃ z, ab / 2 ^ 64 = z := ⟨_, rfl⟩
      obtain ⟨ll, hll⟩ : ∃ z, ab % 2 ^ 64 = z := ⟨_, rfl⟩
      rw [hhh] at l6 w2
      rw [hll] at l6 w1 w2
      obtain ⟨a1, ha1⟩ : ∃ z, (ll + U i s) % 2 ^ 64 = z := ⟨_, rfl⟩
      obtain ⟨a2, ha2⟩ : ∃ z, (ll + U i s) / 2 ^ 64 = z := ⟨_, rfl⟩
      rw [ha1] at w1 w2
      rw [ha2] at w2
      obtain ⟨a3, ha3⟩ : ∃ z, (hh + a2) % 2 ^ 64 = z := ⟨_, rfl⟩
      obtain ⟨a4, ha4⟩ : ∃ z, (a1 + c i k) / 2 ^ 64 = z := ⟨_, rfl⟩
      rw [ha3, ha4] at w2
      rw [← hs, ← hs1, ← hk']
      simp only [Qa,Qb,Qc,Qd,Qe,Qf,Qg,Qh,Qi,Qj,Qk,Ql,Qm,Qn,Qo,Qp,Qq,Qr,Qs,Qt,Qu,Qv,Qw,Qx,Qy,Qz,QA,QB,QC,QD,QE,QF,QG,QH,QI,QJ,QK,QL,QM,QN,QO,QP,QQ,QR,QS,QT,QU,QV,QW,QX,QY,QZ,Q0,Q1,Q2,Q3,Q4,Q5,Q6,Q7,Q8,Q9,Xa,Xb,Xc,Xd,Xe,Xf,Xg,Xh,Xi,Xj,Xk,Xl,Xm,Xn,Xo,Xp,Xq,Xr,Xs,Xt,Xu,Xv,Xw,Xx,Xy,Xz,XA,XB,XC,XD,XE,XF,XG,XH,XI,XJ,XK,XL,XM,XN,XO,XP,XQ,XR,XS,XT,XU,XV,XW,XX,XY,XZ,X0,X1,X2,X3,X4,X5,X6,X7,X8,X9,Ya,Yb,Yc,Yd,Ye,Yf,Yg,Yh,Yi,Yj,Yk,Yl,Ym,Yn,Yo,Yp,Yq,Yr,Ys,Yt,Yu,Yv,Yw,Yx,Yy,Yz,YA,YB,YC,YD,YE,YF,YG,YH,YI,YJ,YK,YL,YM,YN,YO,YP,YQ,YR,YS,YT,YU,YV,YW,YX,YY,YZ,Y0,Y1,Y2,Y3,Y4,Y5,Y6,Y7,Y8,Y9,Za,Zb,Zc,Zd,Ze,Zf,Zg,Zh,Zi,Zj,Zk,Zl,Zm,Zn,Zo,Zp,Zq,Zr,Zs,Zt,Zu,Zv,Zw,Zx,Zy,Zz,ZA,ZB,ZC,ZD,ZE,ZF,ZG,ZH,ZI,ZJ,ZK,ZL,ZM,ZN,ZO,ZP,ZQ,ZR,ZS,ZT,ZU,ZV,ZW,ZX,ZY,ZZ,Z0,Z1,Z2,Z3,Z4,Z5,Z6,Z7,Z8,Z9,Ja,Jb,Jc,Jd,Je,Jf,Jg,Jh,Ji,Jj,Jk,Jl,Jm,Jn,Jo,Jp,Jq,Jr,Js,Jt,Ju,Jv,Jw,Jx,Jy,Jz,JA,JB,JC,JD,JE,JF,JG,JH,JI,JJ,JK,JL,JM,JN,JO,JP,JQ,JR,JS,JT,JU,JV,JW,JX,JY,JZ,J0,J1,J2,J3,J4,J5,J6,J7,J8,J9,Ka,Kb,Kc,Kd,Ke,Kf,Kg,Kh,Ki,Kj,Kk,Kl,Km,Kn,Ko,Kp,Kq,Kr,Ks,Kt,Ku,Kv,Kw,Kx,Ky,Kz,KA,KB,KC,KD,KE,KF,KG,KH,KI,KJ,KK,KL,KM,KN,KO,KP,KQ,KR,KS,KT,KU,KV,KW,KX,KY,KZ,K0,K1,K2,K3,K4,K5,K6,K7,K8,K9,Ga,Gb,Gc,Gd,Ge,Gf,Gg,Gh,Gi,Gj,Gk,Gl,Gm,Gn,Gp,Gq,Gr,Gs,Gt,Gu,Gv,Gw,Gx,Gy,Gz,GA,GB,GC,GD,GE,GF,GG,GH,GI,GJ,GK,GL,GM,GN,GO,GP,GQ,GR,GS,GT,Nat.le_refl,Nat.reduceLeDiff,List.drop_zero,us_take,us_drop,is_take,is_drop,List.take_zero,gn,if_true,if_false,Nat.reduceEqDiff,Int.reduceEq,reduceCtorEq,Nat.succ_ne_self,Nat.reduceAdd,Nat.zero_add,Nat.add_zero,Nat.reduceMul,Nat.mul_one,Nat.one_mul,Nat.zero_mul,Nat.sub_zero,decide_true,decide_false,Bool.and_self,Bool.and_true,Bool.true_and,Bool.false_and,Bool.and_false,Bool.not_true,Bool.not_false,List.length_cons,List.length_nil,us_len,is_len,tb_len,dl_len,us_set,is_set,tb_set,Nat.not_lt_zero,List.nil_append,us_rep,is_rep, l1, l2, l3, l4, l5, l6, l7.eq, l8, l9, l10.eq, l11, l12, ha1, ha2, ha3, ha4, w1, w2]
    · have l1 : decide ((n : Int) < (n : Int)) = false := by simp
      simp only [Qa,Qb,Qc,Qd,Qe,Qf,Qg,Qh,Qi,Qj,Qk,Ql,Qm,Qn,Qo,Qp,Qq,Qr,Qs,Qt,Qu,Qv,Qw,Qx,Qy,Qz,QA,QB,QC,QD,QE,QF,QG,QH,QI,QJ,QK,QL,QM,QN,QO,QP,QQ,QR,QS,QT,QU,QV,QW,QX,QY,QZ,Q0,Q1,Q2,Q3,Q4,Q5,Q6,Q7,Q8,Q9,Xa,Xb,Xc,Xd,Xe,Xf,Xg,Xh,Xi,Xj,Xk,Xl,Xm,Xn,Xo,Xp,Xq,Xr,Xs,Xt,Xu,Xv,Xw,Xx,Xy,Xz,XA,XB,XC,XD,XE,XF,XG,XH,XI,XJ,XK,XL,XM,XN,XO,XP,XQ,XR,XS,XT,XU,XV,XW,XX,XY,XZ,X0,X1,X2,X3,X4,X5,X6,X7,X8,X9,Ya,Yb,Yc,Yd,Ye,Yf,Yg,Yh,Yi,Yj,Yk,Yl,Ym,Yn,Yo,Yp,Yq,Yr,Ys,Yt,Yu,Yv,Yw,Yx,Yy,Yz,YA,YB,YC,YD,YE,YF,YG,YH,YI,YJ,YK,YL,YM,YN,YO,YP,YQ,YR,YS,YT,YU,YV,YW,YX,YY,YZ,Y0,Y1,Y2,Y3,Y4,Y5,Y6,Y7,Y8,Y9,Za,Zb,Zc,Zd,Ze,Zf,Zg,Zh,Zi,Zj,Zk,Zl,Zm,Zn,Zo,Zp,Zq,Zr,Zs,Zt,Zu,Zv,Zw,Zx,Zy,Zz,ZA,ZB,ZC,ZD,ZE,ZF,ZG,ZH,ZI,ZJ,ZK,ZL,ZM,ZN,ZO,ZP,ZQ,ZR,ZS,ZT,ZU,ZV,ZW,ZX,ZY,ZZ,Z0,Z1,Z2,Z3,Z4,Z5,Z6,Z7,Z8,Z9,Ja,Jb,Jc,Jd,Je,Jf,Jg,Jh,Ji,Jj,Jk,Jl,Jm,Jn,Jo,Jp,Jq,Jr,Js,Jt,Ju,Jv,Jw,Jx,Jy,Jz,JA,JB,JC,JD,JE,JF,JG,JH,JI,JJ,JK,JL,JM,JN,JO,JP,JQ,JR,JS,JT,JU,JV,JW,JX,JY,JZ,J0,J1,J2,J3,J4,J5,J6,J7,J8,J9,Ka,Kb,Kc,Kd,Ke,Kf,Kg,Kh,Ki,Kj,Kk,Kl,Km,Kn,Ko,Kp,Kq,Kr,Ks,Kt,Ku,Kv,Kw,Kx,Ky,Kz,KA,KB,KC,KD,KE,KF,KG,KH,KI,KJ,KK,KL,KM,KN,KO,KP,KQ,KR,KS,KT,KU,KV,KW,KX,KY,KZ,K0,K1,K2,K3,K4,K5,K6,K7,K8,K9,Ga,Gb,Gc,Gd,Ge,Gf,Gg,Gh,Gi,Gj,Gk,Gl,Gm,Gn,Gp,Gq,Gr,Gs,Gt,Gu,Gv,Gw,Gx,Gy,Gz,GA,GB,GC,GD,GE,GF,GG,GH,GI,GJ,GK,GL,GM,GN,GO,GP,GQ,GR,GS,GT,Nat.le_refl,Nat.reduceLeDiff,List.drop_zero,us_take,us_drop,is_take,is_drop,List.take_zero,gn,if_true,if_false,Nat.reduceEqDiff,Int.reduceEq,reduceCtorEq,Nat.succ_ne_self,Nat.reduceAdd,Nat.zero_add,Nat.add_zero,Nat.reduceMul,Nat.mul_one,Nat.one_mul,Nat.zero_mul,Nat.sub_zero,decide_true,decide_false,Bool.and_self,Bool.and_true,Bool.true_and,Bool.false_and,Bool.and_false,Bool.not_true,Bool.not_false,List.length_cons,List.length_nil,us_len,is_len,tb_len,dl_len,us_set,is_set,tb_set,Nat.not_lt_zero,List.nil_append,us_rep,is_rep, l1]
  · have k1 : decide ((m : Int) < (m : Int)) = false := by simp
    simp only [Qa,Qb,Qc,Qd,Qe,Qf,Qg,Qh,Qi,Qj,Qk,Ql,Qm,Qn,Qo,Qp,Qq,Qr,Qs,Qt,Qu,Qv,Qw,Qx,Qy,Qz,QA,QB,QC,QD,QE,QF,QG,QH,QI,QJ,QK,QL,QM,QN,QO,QP,QQ,QR,QS,QT,QU,QV,QW,QX,QY,QZ,Q0,Q1,Q2,Q3,Q4,Q5,Q6,Q7,Q8,Q9,Xa,Xb,Xc,Xd,Xe,Xf,Xg,Xh,Xi,Xj,Xk,Xl,Xm,Xn,Xo,Xp,Xq,Xr,Xs,Xt,Xu,Xv,Xw,Xx,Xy,Xz,XA,XB,XC,XD,XE,XF,XG,XH,XI,XJ,XK,XL,XM,XN,XO,XP,XQ,XR,XS,XT,XU,XV,XW,XX,XY,XZ,X0,X1,X2,X3,X4,X5,X6,X7,X8,X9,Ya,Yb,Yc,Yd,Ye,Yf,Yg,Yh,Yi,Yj,Yk,Yl,Ym,Yn,Yo,Yp,Yq,Yr,Ys,Yt,Yu,Yv,Yw,Yx,Yy,Yz,YA,YB,YC,YD,YE,YF,YG,YH,YI,YJ,YK,YL,YM,YN,YO,YP,YQ,YR,YS,YT,YU,YV,YW,YX,YY,YZ,Y0,Y1,Y2,Y3,Y4,Y5,Y6,Y7,Y8,Y9,Za,Zb,Zc,Zd,Ze,Zf,Zg,Zh,Zi,Zj,Zk,Zl,Zm,Zn,Zo,Zp,Zq,Zr,Zs,Zt,Zu,Zv,Zw,Zx,Zy,Zz,ZA,ZB,ZC,ZD,ZE,ZF,ZG,ZH,ZI,ZJ,ZK,ZL,ZM,ZN,ZO,ZP,ZQ,ZR,ZS,ZT,ZU,ZV,ZW,ZX,ZY,ZZ,Z0,Z1,Z2,Z3,Z4,Z5,Z6,Z7,Z8,Z9,Ja,Jb,Jc,Jd,Je,Jf,Jg,Jh,Ji,Jj,Jk,Jl,Jm,Jn,Jo,Jp,Jq,Jr,Js,Jt,Ju,Jv,Jw,Jx,Jy,Jz,JA,JB,JC,JD,JE,JF,JG,JH,JI,JJ,JK,JL,JM,JN,JO,JP,JQ,JR,JS,JT,JU,JV,JW,JX,JY,JZ,J0,J1,J2,J3,J4,J5,J6,J7,J8,J9,Ka,Kb,Kc,Kd,Ke,Kf,Kg,Kh,Ki,Kj,Kk,Kl,Km,Kn,Ko,Kp,Kq,Kr,Ks,Kt,Ku,Kv,Kw,Kx,Ky,Kz,KA,KB,KC,KD,KE,KF,KG,KH,KI,KJ,KK,KL,KM,KN,KO,KP,KQ,KR,KS,KT,KU,KV,KW,KX,KY,KZ,K0,K1,K2,K3,K4,K5,K6,K7,K8,K9,Ga,Gb,Gc,Gd,Ge,Gf,Gg,Gh,Gi,Gj,Gk,Gl,Gm,Gn,Gp,Gq,Gr,Gs,Gt,Gu,Gv,Gw,Gx,Gy,Gz,GA,GB,GC,GD,GE,GF,GG,GH,GI,GJ,GK,GL,GM,GN,GO,GP,GQ,GR,GS,GT,Nat.le_refl,Nat.reduceLeDiff,List.drop_zero,us_take,us_drop,is_take,is_drop,List.take_zero,gn,if_true,if_false,Nat.reduceEqDiff,Int.reduceEq,reduceCtorEq,Nat.succ_ne_self,Nat.reduceAdd,Nat.zero_add,Nat.add_zero,Nat.reduceMul,Nat.mul_one,Nat.one_mul,Nat.zero_mul,Nat.sub_zero,decide_true,decide_false,Bool.and_self,Bool.and_true,Bool.true_and,Bool.false_and,Bool.and_false,Bool.not_true,Bool.not_false,List.length_cons,List.length_nil,us_len,is_len,tb_len,dl_len,us_set,is_set,tb_set,Nat.not_lt_zero,List.nil_append,us_rep,is_rep, k1]

end Mir
