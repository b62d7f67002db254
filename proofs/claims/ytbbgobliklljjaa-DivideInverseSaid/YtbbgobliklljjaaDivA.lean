/- Package divide: taking a multiple of the divisor away, giving it back. Conditions: none. -/
import Derived.Test.YtbbgobliklljjaaAllN
set_option linter.unusedVariables false
set_option linter.unusedSimpArgs false
set_option exponentiation.threshold 5000
set_option maxRecDepth 20000
namespace Mir

/-- A divisor: its words, how many, its shift. -/
def dvl (D n s : Nat) : List V := us 64 (dl 64 9 D) ++ [.i (n : Int), .i (s : Int)]
abbrev dv (D n s : Nat) : V := .vr (dvl D n s) 0

theorem dv_n (D n s : Nat) : part (dvl D n s) 9 none = some (.i (n : Int)) := by
  simp only [part, dvl]
  rw [List.getElem?_append_right (by rw [us_len, dl_len]; omega), us_len, dl_len]; rfl
theorem dv_s (D n s : Nat) : part (dvl D n s) 10 none = some (.i (s : Int)) := by
  simp only [part, dvl]
  rw [List.getElem?_append_right (by rw [us_len, dl_len]; omega), us_len, dl_len]; rfl
theorem dv_w {D n s i : Nat} (h : i < 9) : part (dvl D n s) i none = some (.u 64 (D / 2 ^ (64 * i) % 2 ^ 64)) := by
  simp only [part, dvl]
  rw [List.getElem?_append_left (by rw [us_len, dl_len]; exact h)]
  exact us_get (dl_get h)

theorem split_mul (q D P : Nat) : q * D = q * (D % P) + P * (q * (D / P)) := by
  have h := Nat.div_add_mod D P
  have h2 : q * D = q * (P * (D / P) + D % P) := by rw [h]
  rw [h2, Nat.mul_add, Nat.mul_left_comm, Nat.add_comm]
/-- The product's i-th digit, what is carried. -/
theorem qd_digit {q D i : Nat} (hq : q < 2 ^ 64) : (mC 64 q D 0 i + q * (D / 2 ^ (64 * i) % 2 ^ 64)) % 2 ^ 64 = q * D / 2 ^ (64 * i) % 2 ^ 64 ∧ (mC 64 q D 0 i + q * (D / 2 ^ (64 * i) % 2 ^ 64)) / 2 ^ 64 = mC 64 q D 0 (i + 1) := by
  have hU : mU 64 q D 0 = 0 := by simp [mU, Nat.mod_one]
  have h0 : q / 2 ^ (64 * 0) % 2 ^ 64 = q := by simp; omega
  have h1 := mT_word 64 q D 0 i
  have h2 := mC_step 64 q D 0 i
  rw [hU, h0, Nat.zero_div, Nat.zero_mod, Nat.add_zero] at h1 h2
  refine ⟨?_, h2⟩
  rw [h1, mT, hU, h0, Nat.zero_add, Nat.mul_zero, Nat.pow_zero, Nat.mul_one, Nat.zero_add]
  have h4 : 2 ^ (64 * (i + 1)) = 2 ^ (64 * i) * 2 ^ 64 := by rw [← Nat.pow_add]; congr 1
  have e : q * D = q * (D % 2 ^ (64 * (i + 1))) + 2 ^ (64 * i) * (2 ^ 64 * (q * (D / 2 ^ (64 * (i + 1))))) := by
    rw [← Nat.mul_assoc (2 ^ (64 * i)), ← h4]; exact split_mul q D _
  rw [e, Nat.add_mul_div_left _ _ (Nat.two_pow_pos _), Nat.add_mul_mod_self_left]

theorem word_of_window {lo Wv a j : Nat} (hlo : lo < 2 ^ (64 * a)) (hj : a ≤ j) : (lo + 2 ^ (64 * a) * Wv) / 2 ^ (64 * j) % 2 ^ 64 = Wv / 2 ^ (64 * (j - a)) % 2 ^ 64 := by
  have e : 64 * j = 64 * a + 64 * (j - a) := by omega
  rw [e, Nat.pow_add, ← Nat.div_div_eq_div_mul, Nat.add_mul_div_left _ _ (Nat.two_pow_pos _), Nat.div_eq_of_lt hlo, Nat.zero_add]
theorem word_below {lo Wv a j : Nat} (hj : j < a) : (lo + 2 ^ (64 * a) * Wv) / 2 ^ (64 * j) % 2 ^ 64 = lo / 2 ^ (64 * j) % 2 ^ 64 := by
  have e : 2 ^ (64 * a) = 2 ^ (64 * j) * (2 ^ 64 * 2 ^ (64 * (a - j - 1))) := by rw [← Nat.pow_add, ← Nat.pow_add]; congr 1; omega
  rw [e, Nat.mul_assoc, Nat.mul_assoc, Nat.add_mul_div_left _ _ (Nat.two_pow_pos _), Nat.add_mul_mod_self_left]

/-- Rows of nineteen words. -/
abbrev uH (f : Nat → Nat) : Heap := [some (us 64 (tb 19 f))]

/-- A window whose digits are written one by one. -/
theorem win_step {a i : Nat} (s p : Nat → Nat) : tb 19 (fun j => if j = a + i then s (a + i) else if a ≤ j ∧ j < a + i then s j else p j) = tb 19 (fun j => if a ≤ j ∧ j < a + (i + 1) then s j else p j) := tb_congr fun j hj => by
  by_cases h : j = a + i
  · rw [if_pos h, if_pos (by omega), h]
  · rw [if_neg h]
    by_cases h2 : a ≤ j ∧ j < a + i
    · rw [if_pos h2, if_pos (by omega)]
    · rw [if_neg h2, if_neg (by omega)]

theorem r_divTake {D n s lo Wv a q : Nat} (hn : n ≤ 9) (hD : D < 2 ^ (64 * n)) (hlo : lo < 2 ^ (64 * a)) (hW : Wv < 2 ^ (64 * (n + 1))) (ha : a + n < 19) (hq : q < 2 ^ 64) :
    Run T f_divide_divisor_take [dv D n s, .hs 1 0 0 19 19, .i (a : Int), .u 64 q] [some (us 64 (dl 64 19 (lo + 2 ^ (64 * a) * Wv)))] =
      some (.b (decide (Wv < q * D)), [some (us 64 (dl 64 19 (lo + 2 ^ (64 * a) * ((Wv + 2 ^ (64 * (n + 1)) - q * D) % 2 ^ (64 * (n + 1))))))]) := by
  rw [Run_at T _ (show T f_divide_divisor_take = some m_divide_divisor_take from rfl)]
  simp only [c_divide_divisor_take]
  have hqD : q * D < 2 ^ (64 * (n + 1)) := by
    have : q * D < 2 ^ 64 * 2 ^ (64 * n) := Nat.mul_lt_mul'' hq hD
    rw [← Nat.pow_add] at this
    rw [show 64 * (n + 1) = 64 + 64 * n by omega]; exact this
  obtain ⟨X, hX⟩ : ∃ X, X = lo + 2 ^ (64 * a) * Wv := ⟨_, rfl⟩
  obtain ⟨Z, hZ⟩ : ∃ Z, Z = Wv + 2 ^ (64 * (n + 1)) - q * D := ⟨_, rfl⟩
  obtain ⟨Y, hY⟩ : ∃ Y, Y = lo + 2 ^ (64 * a) * (Z % 2 ^ (64 * (n + 1))) := ⟨_, rfl⟩
  obtain ⟨x, hx⟩ : ∃ x : Nat → Nat, ∀ j, x j = X / 2 ^ (64 * j) % 2 ^ 64 := ⟨_, fun _ => rfl⟩
  obtain ⟨y, hy⟩ : ∃ x : Nat → Nat, ∀ j, x j = Y / 2 ^ (64 * j) % 2 ^ 64 := ⟨_, fun _ => rfl⟩
  obtain ⟨d, hd⟩ : ∃ d : Nat → Nat, ∀ i, d i = D / 2 ^ (64 * i) % 2 ^ 64 := ⟨_, fun _ => rfl⟩
  obtain ⟨c, hc⟩ : ∃ c : Nat → Nat, ∀ i, c i = mC 64 q D 0 i := ⟨_, fun _ => rfl⟩
  obtain ⟨e, he⟩ : ∃ e : Nat → Nat, ∀ i, e i = q * D / 2 ^ (64 * i) % 2 ^ 64 := ⟨_, fun _ => rfl⟩
  obtain ⟨b, hb⟩ : ∃ b : Nat → Nat, ∀ i, b i = bor 64 Wv (q * D) i := ⟨_, fun _ => rfl⟩
  have hcl : ∀ i, c i < 2 ^ 64 := fun i => by rw [hc]; exact mC_lt 64 q D 0 i
  have hdl : ∀ i, d i < 2 ^ 64 := fun i => by rw [hd]; exact Nat.mod_lt _ (Nat.two_pow_pos 64)
  have hbl : ∀ i, (b i ≤ 1) = True := fun i => by rw [hb]; exact eq_true (bor_le 64 Wv (q * D) i)
  have hdig : ∀ i, (c i + q * d i) % 2 ^ 64 = e i ∧ (c i + q * d i) / 2 ^ 64 = c (i + 1) := fun i => by rw [hc, hd, he, hc]; exact qd_digit hq
  have hxw : ∀ i, x (a + i) = Wv / 2 ^ (64 * i) % 2 ^ 64 := fun i => by rw [hx, hX, word_of_window hlo (by omega), show a + i - a = i by omega]
  have hyw : ∀ i, i < n + 1 → y (a + i) = Z / 2 ^ (64 * i) % 2 ^ 64 := fun i hi => by
    rw [hy, hY, word_of_window hlo (by omega), show a + i - a = i by omega]
    have := congrArg (fun l => l.getD i 0) (dl_mod 64 (n + 1) Z)
    simp only [dl_getD hi] at this
    exact this
  have hlo' : ∀ i, i < n + 1 → (x (a + i) + 2 ^ 64 - e i - b i) % 2 ^ 64 = y (a + i) := fun i hi => by
    rw [hxw, he, hb, hyw i hi, hZ]; exact bor_lo 64 (n + 1) Wv (q * D) i hi hqD
  have hhi : ∀ i, (if x (a + i) < e i + b i then 1 else 0) = b (i + 1) := fun i => by rw [hxw, he, hb, hb]; exact bor_hi 64 Wv (q * D) i
  have hcn : c n = e n := by
    have h1 := (hdig n).1
    have h2 : d n = 0 := by rw [hd]; exact word_zero hD (Nat.le_refl n)
    rw [h2, Nat.mul_zero, Nat.add_zero, Nat.mod_eq_of_lt (hcl n)] at h1
    exact h1
  have hbn : decide (b (n + 1) = 1) = decide (Wv < q * D) := by
    rw [hb, bor, Nat.mod_eq_of_lt hW, Nat.mod_eq_of_lt hqD]
    by_cases h : Wv < q * D <;> simp [h]
  have hb0 : b 0 = 0 := by rw [hb]; simp [bor, Nat.mod_one]
  have hc0 : c 0 = 0 := by rw [hc, mC_zero]
  have hlX : dl 64 19 X = tb 19 x := tb_congr fun j hj => (hx j).symm
  have hlY : tb 19 (fun j => if a ≤ j ∧ j < a + (n + 1) then y j else x j) = dl 64 19 Y := tb_congr fun j hj => by
    by_cases h : a ≤ j ∧ j < a + (n + 1)
    · rw [if_pos h, hy]
    · rw [if_neg h, hx]
      by_cases h2 : j < a
      · rw [hX, hY, word_below h2, word_below h2]
      · rw [hX, hY, word_of_window hlo (by omega), word_of_window hlo (by omega), word_zero hW (by omega), word_zero (Nat.mod_lt _ (Nat.two_pow_pos _)) (by omega)]
  rw [← hX, ← hZ, ← hY]
  rw [← hlY, hlX]
  have k1 := dv_n D n s
  have k2 : ∀ i, i < 9 → part (dvl D n s) i none = some (.u 64 (d i)) := fun i hi => by rw [hd]; exact dv_w hi
  obtain ⟨dd, hdd⟩ : ∃ l, l = dvl D n s := ⟨_, rfl⟩
  simp only [dv, ← hdd] at k1 k2 ⊢
  obtain ⟨an, han⟩ : ∃ z, z = a + n := ⟨_, rfl⟩
  have k3 : F (w64 ((a : Int) + (n : Int))) (an : Int) := ⟨by unfold w64; omega⟩
  simp only [Qa,Qb,Qc,Qd,Qe,Qf,Qg,Qh,Qi,Qj,Qk,Ql,Qm,Qn,Qo,Qp,Qq,Qr,Qs,Qt,Qu,Qv,Qw,Qx,Qy,Qz,QA,QB,QC,QD,QE,QF,QG,QH,QI,QJ,QK,QL,QM,QN,QO,QP,QQ,QR,QS,QT,QU,QV,QW,QX,QY,QZ,Q0,Q1,Q2,Q3,Q4,Q5,Q6,Q7,Q8,Q9,Xa,Xb,Xc,Xd,Xe,Xf,Xg,Xh,Xi,Xj,Xk,Xl,Xm,Xn,Xo,Xp,Xq,Xr,Xs,Xt,Xu,Xv,Xw,Xx,Xy,Xz,XA,XB,XC,XD,XE,XF,XG,XH,XI,XJ,XK,XL,XM,XN,XO,XP,XQ,XR,XS,XT,XU,XV,XW,XX,XY,XZ,X0,X1,X2,X3,X4,X5,X6,X7,X8,X9,Ya,Yb,Yc,Yd,Ye,Yf,Yg,Yh,Yi,Yj,Yk,Yl,Ym,Yn,Yo,Yp,Yq,Yr,Ys,Yt,Yu,Yv,Yw,Yx,Yy,Yz,YA,YB,YC,YD,YE,YF,YG,YH,YI,YJ,YK,YL,YM,YN,YO,YP,YQ,YR,YS,YT,YU,YV,YW,YX,YY,YZ,Y0,Y1,Y2,Y3,Y4,Y5,Y6,Y7,Y8,Y9,Za,Zb,Zc,Zd,Ze,Zf,Zg,Zh,Zi,Zj,Zk,Zl,Zm,Zn,Zo,Zp,Zq,Zr,Zs,Zt,Zu,Zv,Zw,Zx,Zy,Zz,ZA,ZB,ZC,ZD,ZE,ZF,ZG,ZH,ZI,ZJ,ZK,ZL,ZM,ZN,ZO,ZP,ZQ,ZR,ZS,ZT,ZU,ZV,ZW,ZX,ZY,ZZ,Z0,Z1,Z2,Z3,Z4,Z5,Z6,Z7,Z8,Z9,Ja,Jb,Jc,Jd,Je,Jf,Jg,Jh,Ji,Jj,Jk,Jl,Jm,Jn,Jo,Jp,Jq,Jr,Js,Jt,Ju,Jv,Jw,Jx,Jy,Jz,JA,JB,JC,JD,JE,JF,JG,JH,JI,JJ,JK,JL,JM,JN,JO,JP,JQ,JR,JS,JT,JU,JV,JW,JX,JY,JZ,J0,J1,J2,J3,J4,J5,J6,J7,J8,J9,Ka,Kb,Kc,Kd,Ke,Kf,Kg,Kh,Ki,Kj,Kk,Kl,Km,Kn,Ko,Kp,Kq,Kr,Ks,Kt,Ku,Kv,Kw,Kx,Ky,Kz,KA,KB,KC,KD,KE,KF,KG,KH,KI,KJ,KK,KL,KM,KN,KO,KP,KQ,KR,KS,KT,KU,KV,KW,KX,KY,KZ,K0,K1,K2,K3,K4,K5,K6,K7,K8,K9,Ga,Gb,Gc,Gd,Ge,Gf,Gg,Gh,Gi,Gj,Gk,Gl,Gm,Gn,Gp,Gq,Gr,Gs,Gt,Gu,Gv,Gw,Gx,Gy,Gz,GA,GB,GC,GD,GE,GF,GG,GH,GI,GJ,GK,GL,GM,GN,GO,GP,GQ,GR,GS,GT,Nat.le_refl,Nat.reduceLeDiff,List.drop_zero,us_take,us_drop,is_take,is_drop,List.take_zero,gn,if_true,if_false,Nat.reduceEqDiff,Int.reduceEq,reduceCtorEq,Nat.succ_ne_self,Nat.reduceAdd,Nat.zero_add,Nat.add_zero,Nat.reduceMul,Nat.mul_one,Nat.one_mul,Nat.zero_mul,Nat.sub_zero,decide_true,decide_false,Bool.and_self,Bool.and_true,Bool.true_and,Bool.false_and,Bool.and_false,Bool.not_true,Bool.not_false,List.length_cons,List.length_nil,us_len,is_len,tb_len,dl_len,us_set,is_set,tb_set,Nat.not_lt_zero,List.nil_append,us_rep,is_rep, k1]
  rw [loop_use T (fun i => ⟨[(0, .vr dd 0), (1, .hs 1 0 0 19 19), (2, .i (a : Int)), (3, .u 64 q), (9, .u 64 (b i)), (10, .u 64 (c i)), (18, .i (n : Int)), (19, .i (i : Int))], uH (fun j => if a ≤ j ∧ j < a + i then y j else x j)⟩) n
    (.exit 0, ⟨[(0, .vr dd 0), (1, .hs 1 0 0 19 19), (2, .i (a : Int)), (9, .u 64 (b n)), (10, .u 64 (c n))], uH (fun j => if a ≤ j ∧ j < a + n then y j else x j)⟩) ?h0 (by simp) ?hs ?hn]
  · have l1 := ixOf_nat (show an < 19 by omega)
    have l2 := part_tb (w := 64) (fun j => if a ≤ j ∧ j < a + n then y j else x j) an (show an < 19 by omega)
    rw [if_neg (by omega)] at l2
    have l3 := hbl n
    have l4 := hlo' n (by omega)
    have l5 := hhi n
    rw [← han, ← hcn] at l4 l5
    have l6 : (an + 1 ≤ 19) = True := by simp; omega
    have l7 : tb 19 (fun j => if j = an then y an else if a ≤ j ∧ j < a + n then y j else x j) = tb 19 (fun j => if a ≤ j ∧ j < a + (n + 1) then y j else x j) := by subst han; exact win_step y x
    have l9 : ∀ f, (uH f).all (lowR 1) = true := fun f => by simp [uH, lowR, us_low]
    simp only [uH] at l9 ⊢
    simp only [Qa,Qb,Qc,Qd,Qe,Qf,Qg,Qh,Qi,Qj,Qk,Ql,Qm,Qn,Qo,Qp,Qq,Qr,Qs,Qt,Qu,Qv,Qw,Qx,Qy,Qz,QA,QB,QC,QD,QE,QF,QG,QH,QI,QJ,QK,QL,QM,QN,QO,QP,QQ,QR,QS,QT,QU,QV,QW,QX,QY,QZ,Q0,Q1,Q2,Q3,Q4,Q5,Q6,Q7,Q8,Q9,Xa,Xb,Xc,Xd,Xe,Xf,Xg,Xh,Xi,Xj,Xk,Xl,Xm,Xn,Xo,Xp,Xq,Xr,Xs,Xt,Xu,Xv,Xw,Xx,Xy,Xz,XA,XB,XC,XD,XE,XF,XG,XH,XI,XJ,XK,XL,XM,XN,XO,XP,XQ,XR,XS,XT,XU,XV,XW,XX,XY,XZ,X0,X1,X2,X3,X4,X5,X6,X7,X8,X9,Ya,Yb,Yc,Yd,Ye,Yf,Yg,Yh,Yi,Yj,Yk,Yl,Ym,Yn,Yo,Yp,Yq,Yr,Ys,Yt,Yu,Yv,Yw,Yx,Yy,Yz,YA,YB,YC,YD,YE,YF,YG,YH,YI,YJ,YK,YL,YM,YN,YO,YP,YQ,YR,YS,YT,YU,YV,YW,YX,YY,YZ,Y0,Y1,Y2,Y3,Y4,Y5,Y6,Y7,Y8,Y9,Za,Zb,Zc,Zd,Ze,Zf,Zg,Zh,Zi,Zj,Zk,Zl,Zm,Zn,Zo,Zp,Zq,Zr,Zs,Zt,Zu,Zv,Zw,Zx,Zy,Zz,ZA,ZB,ZC,ZD,ZE,ZF,ZG,ZH,ZI,ZJ,ZK,ZL,ZM,ZN,ZO,ZP,ZQ,ZR,ZS,ZT,ZU,ZV,ZW,ZX,ZY,ZZ,Z0,Z1,Z2,Z3,Z4,Z5,Z6,Z7,Z8,Z9,Ja,Jb,Jc,Jd,Je,Jf,Jg,Jh,Ji,Jj,Jk,Jl,Jm,Jn,Jo,Jp,Jq,Jr,Js,Jt,Ju,Jv,Jw,Jx,Jy,Jz,JA,JB,JC,JD,JE,JF,JG,JH,JI,JJ,JK,JL,JM,JN,JO,JP,JQ,JR,JS,JT,JU,JV,JW,JX,JY,JZ,J0,J1,J2,J3,J4,J5,J6,J7,J8,J9,Ka,Kb,Kc,Kd,Ke,Kf,Kg,Kh,Ki,Kj,Kk,Kl,Km,Kn,Ko,Kp,Kq,Kr,Ks,Kt,Ku,Kv,Kw,Kx,Ky,Kz,KA,KB,KC,KD,KE,KF,KG,KH,KI,KJ,KK,KL,KM,KN,KO,KP,KQ,KR,KS,KT,KU,KV,KW,KX,KY,KZ,K0,K1,K2,K3,K4,K5,K6,K7,K8,K9,Ga,Gb,Gc,Gd,Ge,Gf,Gg,Gh,Gi,Gj,Gk,Gl,Gm,Gn,Gp,Gq,Gr,Gs,Gt,Gu,Gv,Gw,Gx,Gy,Gz,GA,GB,GC,GD,GE,GF,GG,GH,GI,GJ,GK,GL,GM,GN,GO,GP,GQ,GR,GS,GT,Nat.le_refl,Nat.reduceLeDiff,List.drop_zero,us_take,us_drop,is_take,is_drop,List.take_zero,gn,if_true,if_false,Nat.reduceEqDiff,Int.reduceEq,reduceCtorEq,Nat.succ_ne_self,Nat.reduceAdd,Nat.zero_add,Nat.add_zero,Nat.reduceMul,Nat.mul_one,Nat.one_mul,Nat.zero_mul,Nat.sub_zero,decide_true,decide_false,Bool.and_self,Bool.and_true,Bool.true_and,Bool.false_and,Bool.and_false,Bool.not_true,Bool.not_false,List.length_cons,List.length_nil,us_len,is_len,tb_len,dl_len,us_set,is_set,tb_set,Nat.not_lt_zero,List.nil_append,us_rep,is_rep, k1, k3.eq, l1, l2, l3, l4, l5, l6, l7, l9, hbn, List.take_succ_cons, List.take_nil]
  · have e1 : tb 19 x = tb 19 (fun j => if a ≤ j ∧ j < a + 0 then y j else x j) := tb_congr fun j hj => by rw [if_neg (by omega)]
    rw [e1]; simp only [hb0, hc0]; rfl
  · intro i hi
    obtain ⟨ai, hai⟩ : ∃ z, z = a + i := ⟨_, rfl⟩
    have l1 : decide ((i : Int) < (n : Int)) = true := by simp; omega
    have l2 := ixOf_nat (show i < 9 by omega)
    have l3 := k2 i (by omega)
    have l4 := r_Mul64 hq (hdl i)
    obtain ⟨g1, g2⟩ := hdig i
    obtain ⟨i1, hi1⟩ : ∃ z, z = i + 1 := ⟨_, rfl⟩
    have l5 : F (w64 ((i : Int) + 1)) (i1 : Int) := ⟨by unfold w64; omega⟩
    have l6 : F (w64 ((a : Int) + (i : Int))) (ai : Int) := ⟨by unfold w64; omega⟩
    have l7 := ixOf_nat (show ai < 19 by omega)
    have l8 := part_tb (w := 64) (fun j => if a ≤ j ∧ j < a + i then y j else x j) ai (show ai < 19 by omega)
    rw [if_neg (by omega)] at l8
    have l9 := hbl i
    have l10 := hlo' i (by omega)
    have l11 := hhi i
    rw [← hai] at l10 l11
    have l12 : (ai + 1 ≤ 19) = True := by simp; omega
    have l13 : tb 19 (fun j => if j = ai then y ai else if a ≤ j ∧ j < a + i then y j else x j) = tb 19 (fun j => if a ≤ j ∧ j < a + (i + 1) then y j else x j) := by subst hai; exact win_step y x
    have hab : q * d i ≤ 18446744073709551615 * 18446744073709551615 := Nat.mul_le_mul (by omega) (by have := hdl i; omega)
    obtain ⟨w1, w2⟩ := mul_word (u := 0) hab (by omega) (hcl i)
    rw [Nat.add_zero, Nat.add_zero] at w1
    rw [Nat.add_zero, Nat.add_zero] at w2
    have hmm : (q * d i % 2 ^ 64) % 2 ^ 64 = q * d i % 2 ^ 64 := Nat.mod_mod _ _
    have hz : q * d i % 2 ^ 64 / 2 ^ 64 = 0 := Nat.div_eq_of_lt (Nat.mod_lt _ (Nat.two_pow_pos 64))
    rw [hmm] at w1
    rw [hmm, hz, Nat.add_zero] at w2
    rw [g1] at w1
    rw [g2] at w2
    obtain ⟨ab, hab'⟩ : ∃ z, z = q * d i := ⟨_, rfl⟩
    rw [← hab'] at l4 w1 w2
    obtain ⟨hh, hhh⟩ : ∃ z, ab / 2 ^ 64 = z := ⟨_, rfl⟩
    obtain ⟨ll, hll⟩ : ∃ z, ab % 2 ^ 64 = z := ⟨_, rfl⟩
    rw [hhh, hll] at l4
    have hhl : hh % 2 ^ 64 = hh := Nat.mod_eq_of_lt (by
      rw [← hhh]
      have : ab < 2 ^ 64 * 2 ^ 64 := by rw [hab']; exact Nat.mul_lt_mul'' hq (hdl i)
      omega)
    rw [hll] at w1
    rw [hhh, hll, hhl] at w2
    obtain ⟨c2, hc2⟩ : ∃ z, (ll + c i) / 2 ^ 64 = z := ⟨_, rfl⟩
    rw [hc2] at w2
    rw [← hi1] at w2 l11 l13 ⊢
    simp only [uH]
    simp only [Qa,Qb,Qc,Qd,Qe,Qf,Qg,Qh,Qi,Qj,Qk,Ql,Qm,Qn,Qo,Qp,Qq,Qr,Qs,Qt,Qu,Qv,Qw,Qx,Qy,Qz,QA,QB,QC,QD,QE,QF,QG,QH,QI,QJ,QK,QL,QM,QN,QO,QP,QQ,QR,QS,QT,QU,QV,QW,QX,QY,QZ,Q0,Q1,Q2,Q3,Q4,Q5,Q6,Q7,Q8,Q9,Xa,Xb,Xc,Xd,Xe,Xf,Xg,Xh,Xi,Xj,Xk,Xl,Xm,Xn,Xo,Xp,Xq,Xr,Xs,Xt,Xu,Xv,Xw,Xx,Xy,Xz,XA,XB,XC,XD,XE,XF,XG,XH,XI,XJ,XK,XL,XM,XN,XO,XP,XQ,XR,XS,XT,XU,XV,XW,XX,XY,XZ,X0,X1,X2,X3,X4,X5,X6,X7,X8,X9,Ya,Yb,Yc,Yd,Ye,Yf,Yg,Yh,Yi,Yj,Yk,Yl,Ym,Yn,Yo,Yp,Yq,Yr,Ys,Yt,Yu,Yv,Yw,Yx,Yy,Yz,YA,YB,YC,YD,YE,YF,YG,YH,YI,YJ,YK,YL,YM,YN,YO,YP,YQ,YR,YS,YT,YU,YV,YW,YX,YY,YZ,Y0,Y1,Y2,Y3,Y4,Y5,Y6,Y7,Y8,Y9,Za,Zb,Zc,Zd,Ze,Zf,Zg,Zh,Zi,Zj,Zk,Zl,Zm,Zn,Zo,Zp,Zq,Zr,Zs,Zt,Zu,Zv,Zw,Zx,Zy,Zz,ZA,ZB,ZC,ZD,ZE,ZF,ZG,ZH,ZI,ZJ,ZK,ZL,ZM,ZN,ZO,ZP,ZQ,ZR,ZS,ZT,ZU,ZV,ZW,ZX,ZY,ZZ,Z0,Z1,Z2,Z3,Z4,Z5,Z6,Z7,Z8,Z9,Ja,Jb,Jc,Jd,Je,Jf,Jg,Jh,Ji,Jj,Jk,Jl,Jm,Jn,Jo,Jp,Jq,Jr,Js,Jt,Ju,Jv,Jw,Jx,Jy,Jz,JA,JB,JC,JD,JE,JF,JG,JH,JI,JJ,JK,JL,JM,JN,JO,JP,JQ,JR,JS,JT,JU,JV,JW,JX,JY,JZ,J0,J1,J2,J3,J4,J5,J6,J7,J8,J9,Ka,Kb,Kc,Kd,Ke,Kf,Kg,Kh,Ki,Kj,Kk,Kl,Km,Kn,Ko,Kp,Kq,Kr,Ks,Kt,Ku,Kv,Kw,Kx,Ky,Kz,KA,KB,KC,KD,KE,KF,KG,KH,KI,KJ,KK,KL,KM,KN,KO,KP,KQ,KR,KS,KT,KU,KV,KW,KX,KY,KZ,K0,K1,K2,K3,K4,K5,K6,K7,K8,K9,Ga,Gb,Gc,Gd,Ge,Gf,Gg,Gh,Gi,Gj,Gk,Gl,Gm,Gn,Gp,Gq,Gr,Gs,Gt,Gu,Gv,Gw,Gx,Gy,Gz,GA,GB,GC,GD,GE,GF,GG,GH,GI,GJ,GK,GL,GM,GN,GO,GP,GQ,GR,GS,GT,Nat.le_refl,Nat.reduceLeDiff,List.drop_zero,us_take,us_drop,is_take,is_drop,List.take_zero,gn,if_true,if_false,Nat.reduceEqDiff,Int.reduceEq,reduceCtorEq,Nat.succ_ne_self,Nat.reduceAdd,Nat.zero_add,Nat.add_zero,Nat.reduceMul,Nat.mul_one,Nat.one_mul,Nat.zero_mul,Nat.sub_zero,decide_true,decide_false,Bool.and_self,Bool.and_true,Bool.true_and,Bool.false_and,Bool.and_false,Bool.not_true,Bool.not_false,List.length_cons,List.length_nil,us_len,is_len,tb_len,dl_len,us_set,is_set,tb_set,Nat.not_lt_zero,List.nil_append,us_rep,is_rep, l1, l2, l3, l4, l5.eq, l6.eq, l7, l8, l9, l10, l11, l12, l13, w1, w2, hc2]
  · have l1 : decide ((n : Int) < (n : Int)) = false := by simp
    simp only [uH]
    simp only [Qa,Qb,Qc,Qd,Qe,Qf,Qg,Qh,Qi,Qj,Qk,Ql,Qm,Qn,Qo,Qp,Qq,Qr,Qs,Qt,Qu,Qv,Qw,Qx,Qy,Qz,QA,QB,QC,QD,QE,QF,QG,QH,QI,QJ,QK,QL,QM,QN,QO,QP,QQ,QR,QS,QT,QU,QV,QW,QX,QY,QZ,Q0,Q1,Q2,Q3,Q4,Q5,Q6,Q7,Q8,Q9,Xa,Xb,Xc,Xd,Xe,Xf,Xg,Xh,Xi,Xj,Xk,Xl,Xm,Xn,Xo,Xp,Xq,Xr,Xs,Xt,Xu,Xv,Xw,Xx,Xy,Xz,XA,XB,XC,XD,XE,XF,XG,XH,XI,XJ,XK,XL,XM,XN,XO,XP,XQ,XR,XS,XT,XU,XV,XW,XX,XY,XZ,X0,X1,X2,X3,X4,X5,X6,X7,X8,X9,Ya,Yb,Yc,Yd,Ye,Yf,Yg,Yh,Yi,Yj,Yk,Yl,Ym,Yn,Yo,Yp,Yq,Yr,Ys,Yt,Yu,Yv,Yw,Yx,Yy,Yz,YA,YB,YC,YD,YE,YF,YG,YH,YI,YJ,YK,YL,YM,YN,YO,YP,YQ,YR,YS,YT,YU,YV,YW,YX,YY,YZ,Y0,Y1,Y2,Y3,Y4,Y5,Y6,Y7,Y8,Y9,Za,Zb,Zc,Zd,Ze,Zf,Zg,Zh,Zi,Zj,Zk,Zl,Zm,Zn,Zo,Zp,Zq,Zr,Zs,Zt,Zu,Zv,Zw,Zx,Zy,Zz,ZA,ZB,ZC,ZD,ZE,ZF,ZG,ZH,ZI,ZJ,ZK,ZL,ZM,ZN,ZO,ZP,ZQ,ZR,ZS,ZT,ZU,ZV,ZW,ZX,ZY,ZZ,Z0,Z1,Z2,Z3,Z4,Z5,Z6,Z7,Z8,Z9,Ja,Jb,Jc,Jd,Je,Jf,Jg,Jh,Ji,Jj,Jk,Jl,Jm,Jn,Jo,Jp,Jq,Jr,Js,Jt,Ju,Jv,Jw,Jx,Jy,Jz,JA,JB,JC,JD,JE,JF,JG,JH,JI,JJ,JK,JL,JM,JN,JO,JP,JQ,JR,JS,JT,JU,JV,JW,JX,JY,JZ,J0,J1,J2,J3,J4,J5,J6,J7,J8,J9,Ka,Kb,Kc,Kd,Ke,Kf,Kg,Kh,Ki,Kj,Kk,Kl,Km,Kn,Ko,Kp,Kq,Kr,Ks,Kt,Ku,Kv,Kw,Kx,Ky,Kz,KA,KB,KC,KD,KE,KF,KG,KH,KI,KJ,KK,KL,KM,KN,KO,KP,KQ,KR,KS,KT,KU,KV,KW,KX,KY,KZ,K0,K1,K2,K3,K4,K5,K6,K7,K8,K9,Ga,Gb,Gc,Gd,Ge,Gf,Gg,Gh,Gi,Gj,Gk,Gl,Gm,Gn,Gp,Gq,Gr,Gs,Gt,Gu,Gv,Gw,Gx,Gy,Gz,GA,GB,GC,GD,GE,GF,GG,GH,GI,GJ,GK,GL,GM,GN,GO,GP,GQ,GR,GS,GT,Nat.le_refl,Nat.reduceLeDiff,List.drop_zero,us_take,us_drop,is_take,is_drop,List.take_zero,gn,if_true,if_false,Nat.reduceEqDiff,Int.reduceEq,reduceCtorEq,Nat.succ_ne_self,Nat.reduceAdd,Nat.zero_add,Nat.add_zero,Nat.reduceMul,Nat.mul_one,Nat.one_mul,Nat.zero_mul,Nat.sub_zero,decide_true,decide_false,Bool.and_self,Bool.and_true,Bool.true_and,Bool.false_and,Bool.and_false,Bool.not_true,Bool.not_false,List.length_cons,List.length_nil,us_len,is_len,tb_len,dl_len,us_set,is_set,tb_set,Nat.not_lt_zero,List.nil_append,us_rep,is_rep, l1]

theorem r_divBack {D n s lo Wv a : Nat} (hn : n ≤ 9) (hD : D < 2 ^ (64 * n)) (hlo : lo < 2 ^ (64 * a)) (hW : Wv < 2 ^ (64 * (n + 1))) (ha : a + n < 19) :
    Run T f_divide_divisor_back [dv D n s, .hs 1 0 0 19 19, .i (a : Int)] [some (us 64 (dl 64 19 (lo + 2 ^ (64 * a) * Wv)))] =
      some (.b (decide (2 ^ (64 * (n + 1)) ≤ Wv + D)), [some (us 64 (dl 64 19 (lo + 2 ^ (64 * a) * ((Wv + D) % 2 ^ (64 * (n + 1))))))]) := by
  rw [Run_at T _ (show T f_divide_divisor_back = some m_divide_divisor_back from rfl)]
  simp only [c_divide_divisor_back]
  have hD' : D < 2 ^ (64 * (n + 1)) := Nat.lt_of_lt_of_le hD (Nat.pow_le_pow_right (by omega) (by omega))
  obtain ⟨X, hX⟩ : ∃ X, X = lo + 2 ^ (64 * a) * Wv := ⟨_, rfl⟩
  obtain ⟨Z, hZ⟩ : ∃ Z, Z = Wv + D := ⟨_, rfl⟩
  obtain ⟨Y, hY⟩ : ∃ Y, Y = lo + 2 ^ (64 * a) * (Z % 2 ^ (64 * (n + 1))) := ⟨_, rfl⟩
  obtain ⟨x, hx⟩ : ∃ x : Nat → Nat, ∀ j, x j = X / 2 ^ (64 * j) % 2 ^ 64 := ⟨_, fun _ => rfl⟩
  obtain ⟨y, hy⟩ : ∃ x : Nat → Nat, ∀ j, x j = Y / 2 ^ (64 * j) % 2 ^ 64 := ⟨_, fun _ => rfl⟩
  obtain ⟨d, hd⟩ : ∃ d : Nat → Nat, ∀ i, d i = D / 2 ^ (64 * i) % 2 ^ 64 := ⟨_, fun _ => rfl⟩
  obtain ⟨b, hb⟩ : ∃ b : Nat → Nat, ∀ i, b i = (Wv % 2 ^ (64 * i) + D % 2 ^ (64 * i)) / 2 ^ (64 * i) := ⟨_, fun _ => rfl⟩
  have hbl : ∀ i, (b i ≤ 1) = True := fun i => by rw [hb]; exact eq_true (carry_le 64 Wv D i)
  have hxw : ∀ i, x (a + i) = Wv / 2 ^ (64 * i) % 2 ^ 64 := fun i => by rw [hx, hX, word_of_window hlo (by omega), show a + i - a = i by omega]
  have hyw : ∀ i, i < n + 1 → y (a + i) = Z / 2 ^ (64 * i) % 2 ^ 64 := fun i hi => by
    rw [hy, hY, word_of_window hlo (by omega), show a + i - a = i by omega]
    have := congrArg (fun l => l.getD i 0) (dl_mod 64 (n + 1) Z)
    simp only [dl_getD hi] at this
    exact this
  have hlo' : ∀ i, i < n + 1 → (x (a + i) + d i + b i) % 2 ^ 64 = y (a + i) := fun i hi => by
    rw [hxw, hd, hb, hyw i hi, hZ]; exact carry_lo 64 Wv D i
  have hhi : ∀ i, (x (a + i) + d i + b i) / 2 ^ 64 = b (i + 1) := fun i => by rw [hxw, hd, hb, hb]; exact carry_hi 64 Wv D i
  have hdn : d n = 0 := by rw [hd]; exact word_zero hD (Nat.le_refl n)
  have hbn : decide (b (n + 1) = 1) = decide (2 ^ (64 * (n + 1)) ≤ Z) := by
    have hP : 0 < 2 ^ (64 * (n + 1)) := Nat.two_pow_pos _
    rw [hb, Nat.mod_eq_of_lt hW, Nat.mod_eq_of_lt hD', ← hZ]
    by_cases h : 2 ^ (64 * (n + 1)) ≤ Z
    · rw [decide_eq_true h, decide_eq_true (Nat.div_eq_of_lt_le (by omega) (by omega))]
    · rw [decide_eq_false h, Nat.div_eq_of_lt (by omega)]; rfl
  have hb0 : b 0 = 0 := by rw [hb]; simp [Nat.mod_one]
  have hlX : dl 64 19 X = tb 19 x := tb_congr fun j hj => (hx j).symm
  have hlY : tb 19 (fun j => if a ≤ j ∧ j < a + (n + 1) then y j else x j) = dl 64 19 Y := tb_congr fun j hj => by
    by_cases h : a ≤ j ∧ j < a + (n + 1)
    · rw [if_pos h, hy]
    · rw [if_neg h, hx]
      by_cases h2 : j < a
      · rw [hX, hY, word_below h2, word_below h2]
      · rw [hX, hY, word_of_window hlo (by omega), word_of_window hlo (by omega), word_zero hW (by omega), word_zero (Nat.mod_lt _ (Nat.two_pow_pos _)) (by omega)]
  rw [← hX, ← hZ, ← hY]
  rw [← hlY, hlX]
  have k1 := dv_n D n s
  have k2 : ∀ i, i < 9 → part (dvl D n s) i none = some (.u 64 (d i)) := fun i hi => by rw [hd]; exact dv_w hi
  obtain ⟨dd, hdd⟩ : ∃ l, l = dvl D n s := ⟨_, rfl⟩
  simp only [dv, ← hdd] at k1 k2 ⊢
  obtain ⟨an, han⟩ : ∃ z, z = a + n := ⟨_, rfl⟩
  have k3 : F (w64 ((a : Int) + (n : Int))) (an : Int) := ⟨by unfold w64; omega⟩
  simp only [Qa,Qb,Qc,Qd,Qe,Qf,Qg,Qh,Qi,Qj,Qk,Ql,Qm,Qn,Qo,Qp,Qq,Qr,Qs,Qt,Qu,Qv,Qw,Qx,Qy,Qz,QA,QB,QC,QD,QE,QF,QG,QH,QI,QJ,QK,QL,QM,QN,QO,QP,QQ,QR,QS,QT,QU,QV,QW,QX,QY,QZ,Q0,Q1,Q2,Q3,Q4,Q5,Q6,Q7,Q8,Q9,Xa,Xb,Xc,Xd,Xe,Xf,Xg,Xh,Xi,Xj,Xk,Xl,Xm,Xn,Xo,Xp,Xq,Xr,Xs,Xt,Xu,Xv,Xw,Xx,Xy,Xz,XA,XB,XC,XD,XE,XF,XG,XH,XI,XJ,XK,XL,XM,XN,XO,XP,XQ,XR,XS,XT,XU,XV,XW,XX,XY,XZ,X0,X1,X2,X3,X4,X5,X6,X7,X8,X9,Ya,Yb,Yc,Yd,Ye,Yf,Yg,Yh,Yi,Yj,Yk,Yl,Ym,Yn,Yo,Yp,Yq,Yr,Ys,Yt,Yu,Yv,Yw,Yx,Yy,Yz,YA,YB,YC,YD,YE,YF,YG,YH,YI,YJ,YK,YL,YM,YN,YO,YP,YQ,YR,YS,YT,YU,YV,YW,YX,YY,YZ,Y0,Y1,Y2,Y3,Y4,Y5,Y6,Y7,Y8,Y9,Za,Zb,Zc,Zd,Ze,Zf,Zg,Zh,Zi,Zj,Zk,Zl,Zm,Zn,Zo,Zp,Zq,Zr,Zs,Zt,Zu,Zv,Zw,Zx,Zy,Zz,ZA,ZB,ZC,ZD,ZE,ZF,ZG,ZH,ZI,ZJ,ZK,ZL,ZM,ZN,ZO,ZP,ZQ,ZR,ZS,ZT,ZU,ZV,ZW,ZX,ZY,ZZ,Z0,Z1,Z2,Z3,Z4,Z5,Z6,Z7,Z8,Z9,Ja,Jb,Jc,Jd,Je,Jf,Jg,Jh,Ji,Jj,Jk,Jl,Jm,Jn,Jo,Jp,Jq,Jr,Js,Jt,Ju,Jv,Jw,Jx,Jy,Jz,JA,JB,JC,JD,JE,JF,JG,JH,JI,JJ,JK,JL,JM,JN,JO,JP,JQ,JR,JS,JT,JU,JV,JW,JX,JY,JZ,J0,J1,J2,J3,J4,J5,J6,J7,J8,J9,Ka,Kb,Kc,Kd,Ke,Kf,Kg,Kh,Ki,Kj,Kk,Kl,Km,Kn,Ko,Kp,Kq,Kr,Ks,Kt,Ku,Kv,Kw,Kx,Ky,Kz,KA,KB,KC,KD,KE,KF,KG,KH,KI,KJ,KK,KL,KM,KN,KO,KP,KQ,KR,KS,KT,KU,KV,KW,KX,KY,KZ,K0,K1,K2,K3,K4,K5,K6,K7,K8,K9,Ga,Gb,Gc,Gd,Ge,Gf,Gg,Gh,Gi,Gj,Gk,Gl,Gm,Gn,Gp,Gq,Gr,Gs,Gt,Gu,Gv,Gw,Gx,Gy,Gz,GA,GB,GC,GD,GE,GF,GG,GH,GI,GJ,GK,GL,GM,GN,GO,GP,GQ,GR,GS,GT,Nat.le_refl,Nat.reduceLeDiff,List.drop_zero,us_take,us_drop,is_take,is_drop,List.take_zero,gn,if_true,if_false,Nat.reduceEqDiff,Int.reduceEq,reduceCtorEq,Nat.succ_ne_self,Nat.reduceAdd,Nat.zero_add,Nat.add_zero,Nat.reduceMul,Nat.mul_one,Nat.one_mul,Nat.zero_mul,Nat.sub_zero,decide_true,decide_false,Bool.and_self,Bool.and_true,Bool.true_and,Bool.false_and,Bool.and_false,Bool.not_true,Bool.not_false,List.length_cons,List.length_nil,us_len,is_len,tb_len,dl_len,us_set,is_set,tb_set,Nat.not_lt_zero,List.nil_append,us_rep,is_rep, k1]
  rw [loop_use T (fun i => ⟨[(0, .vr dd 0), (1, .hs 1 0 0 19 19), (2, .i (a : Int)), (7, .u 64 (b i)), (12, .i (n : Int)), (13, .i (i : Int))], uH (fun j => if a ≤ j ∧ j < a + i then y j else x j)⟩) n
    (.exit 0, ⟨[(0, .vr dd 0), (1, .hs 1 0 0 19 19), (2, .i (a : Int)), (7, .u 64 (b n))], uH (fun j => if a ≤ j ∧ j < a + n then y j else x j)⟩) ?h0 (by simp) ?hs ?hn]
  · have l1 := ixOf_nat (show an < 19 by omega)
    have l2 := part_tb (w := 64) (fun j => if a ≤ j ∧ j < a + n then y j else x j) an (show an < 19 by omega)
    rw [if_neg (by omega)] at l2
    have l3 := hbl n
    have l4 := hlo' n (by omega)
    have l5 := hhi n
    rw [← han, hdn] at l4 l5
    rw [Nat.add_zero] at l4 l5
    have l6 : (an + 1 ≤ 19) = True := by simp; omega
    have l7 : tb 19 (fun j => if j = an then y an else if a ≤ j ∧ j < a + n then y j else x j) = tb 19 (fun j => if a ≤ j ∧ j < a + (n + 1) then y j else x j) := by subst han; exact win_step y x
    have l9 : ∀ f, (uH f).all (lowR 1) = true := fun f => by simp [uH, lowR, us_low]
    simp only [uH] at l9 ⊢
    simp only [Qa,Qb,Qc,Qd,Qe,Qf,Qg,Qh,Qi,Qj,Qk,Ql,Qm,Qn,Qo,Qp,Qq,Qr,Qs,Qt,Qu,Qv,Qw,Qx,Qy,Qz,QA,QB,QC,QD,QE,QF,QG,QH,QI,QJ,QK,QL,QM,QN,QO,QP,QQ,QR,QS,QT,QU,QV,QW,QX,QY,QZ,Q0,Q1,Q2,Q3,Q4,Q5,Q6,Q7,Q8,Q9,Xa,Xb,Xc,Xd,Xe,Xf,Xg,Xh,Xi,Xj,Xk,Xl,Xm,Xn,Xo,Xp,Xq,Xr,Xs,Xt,Xu,Xv,Xw,Xx,Xy,Xz,XA,XB,XC,XD,XE,XF,XG,XH,XI,XJ,XK,XL,XM,XN,XO,XP,XQ,XR,XS,XT,XU,XV,XW,XX,XY,XZ,X0,X1,X2,X3,X4,X5,X6,X7,X8,X9,Ya,Yb,Yc,Yd,Ye,Yf,Yg,Yh,Yi,Yj,Yk,Yl,Ym,Yn,Yo,Yp,Yq,Yr,Ys,Yt,Yu,Yv,Yw,Yx,Yy,Yz,YA,YB,YC,YD,YE,YF,YG,YH,YI,YJ,YK,YL,YM,YN,YO,YP,YQ,YR,YS,YT,YU,YV,YW,YX,YY,YZ,Y0,Y1,Y2,Y3,Y4,Y5,Y6,Y7,Y8,Y9,Za,Zb,Zc,Zd,Ze,Zf,Zg,Zh,Zi,Zj,Zk,Zl,Zm,Zn,Zo,Zp,Zq,Zr,Zs,Zt,Zu,Zv,Zw,Zx,Zy,Zz,ZA,ZB,ZC,ZD,ZE,ZF,ZG,ZH,ZI,ZJ,ZK,ZL,ZM,ZN,ZO,ZP,ZQ,ZR,ZS,ZT,ZU,ZV,ZW,ZX,ZY,ZZ,Z0,Z1,Z2,Z3,Z4,Z5,Z6,Z7,Z8,Z9,Ja,Jb,Jc,Jd,Je,Jf,Jg,Jh,Ji,Jj,Jk,Jl,Jm,Jn,Jo,Jp,Jq,Jr,Js,Jt,Ju,Jv,Jw,Jx,Jy,Jz,JA,JB,JC,JD,JE,JF,JG,JH,JI,JJ,JK,JL,JM,JN,JO,JP,JQ,JR,JS,JT,JU,JV,JW,JX,JY,JZ,J0,J1,J2,J3,J4,J5,J6,J7,J8,J9,Ka,Kb,Kc,Kd,Ke,Kf,Kg,Kh,Ki,Kj,Kk,Kl,Km,Kn,Ko,Kp,Kq,Kr,Ks,Kt,Ku,Kv,Kw,Kx,Ky,Kz,KA,KB,KC,KD,KE,KF,KG,KH,KI,KJ,KK,KL,KM,KN,KO,KP,KQ,KR,KS,KT,KU,KV,KW,KX,KY,KZ,K0,K1,K2,K3,K4,K5,K6,K7,K8,K9,Ga,Gb,Gc,Gd,Ge,Gf,Gg,Gh,Gi,Gj,Gk,Gl,Gm,Gn,Gp,Gq,Gr,Gs,Gt,Gu,Gv,Gw,Gx,Gy,Gz,GA,GB,GC,GD,GE,GF,GG,GH,GI,GJ,GK,GL,GM,GN,GO,GP,GQ,GR,GS,GT,Nat.le_refl,Nat.reduceLeDiff,List.drop_zero,us_take,us_drop,is_take,is_drop,List.take_zero,gn,if_true,if_false,Nat.reduceEqDiff,Int.reduceEq,reduceCtorEq,Nat.succ_ne_self,Nat.reduceAdd,Nat.zero_add,Nat.add_zero,Nat.reduceMul,Nat.mul_one,Nat.one_mul,Nat.zero_mul,Nat.sub_zero,decide_true,decide_false,Bool.and_self,Bool.and_true,Bool.true_and,Bool.false_and,Bool.and_false,Bool.not_true,Bool.not_false,List.length_cons,List.length_nil,us_len,is_len,tb_len,dl_len,us_set,is_set,tb_set,Nat.not_lt_zero,List.nil_append,us_rep,is_rep, k1, k3.eq, l1, l2, l3, l4, l5, l6, l7, l9, hbn, List.take_succ_cons, List.take_nil]
  · have e1 : tb 19 x = tb 19 (fun j => if a ≤ j ∧ j < a + 0 then y j else x j) := tb_congr fun j hj => by rw [if_neg (by omega)]
    rw [e1]; simp only [hb0]; rfl
  · intro i hi
    obtain ⟨ai, hai⟩ : ∃ z, z = a + i := ⟨_, rfl⟩
    have l1 : decide ((i : Int) < (n : Int)) = true := by simp; omega
    have l2 := ixOf_nat (show i < 9 by omega)
    have l3 := k2 i (by omega)
    obtain ⟨i1, hi1⟩ : ∃ z, z = i + 1 := ⟨_, rfl⟩
    have l5 : F (w64 ((i : Int) + 1)) (i1 : Int) := ⟨by unfold w64; omega⟩
    have l6 : F (w64 ((a : Int) + (i : Int))) (ai : Int) := ⟨by unfold w64; omega⟩
    have l7 := ixOf_nat (show ai < 19 by omega)
    have l8 := part_tb (w := 64) (fun j => if a ≤ j ∧ j < a + i then y j else x j) ai (show ai < 19 by omega)
    rw [if_neg (by omega)] at l8
    have l9 := hbl i
    have l10 := hlo' i (by omega)
    have l11 := hhi i
    rw [← hai] at l10 l11
    have l12 : (ai + 1 ≤ 19) = True := by simp; omega
    have l13 : tb 19 (fun j => if j = ai then y ai else if a ≤ j ∧ j < a + i then y j else x j) = tb 19 (fun j => if a ≤ j ∧ j < a + (i + 1) then y j else x j) := by subst hai; exact win_step y x
    rw [← hi1] at l11 l13 ⊢
    simp only [uH]
    simp only [Qa,Qb,Qc,Qd,Qe,Qf,Qg,Qh,Qi,Qj,Qk,Ql,Qm,Qn,Qo,Qp,Qq,Qr,Qs,Qt,Qu,Qv,Qw,Qx,Qy,Qz,QA,QB,QC,QD,QE,QF,QG,QH,QI,QJ,QK,QL,QM,QN,QO,QP,QQ,QR,QS,QT,QU,QV,QW,QX,QY,QZ,Q0,Q1,Q2,Q3,Q4,Q5,Q6,Q7,Q8,Q9,Xa,Xb,Xc,Xd,Xe,Xf,Xg,Xh,Xi,Xj,Xk,Xl,Xm,Xn,Xo,Xp,Xq,Xr,Xs,Xt,Xu,Xv,Xw,Xx,Xy,Xz,XA,XB,XC,XD,XE,XF,XG,XH,XI,XJ,XK,XL,XM,XN,XO,XP,XQ,XR,XS,XT,XU,XV,XW,XX,XY,XZ,X0,X1,X2,X3,X4,X5,X6,X7,X8,X9,Ya,Yb,Yc,Yd,Ye,Yf,Yg,Yh,Yi,Yj,Yk,Yl,Ym,Yn,Yo,Yp,Yq,Yr,Ys,Yt,Yu,Yv,Yw,Yx,Yy,Yz,YA,YB,YC,YD,YE,YF,YG,YH,YI,YJ,YK,YL,YM,YN,YO,YP,YQ,YR,YS,YT,YU,YV,YW,YX,YY,YZ,Y0,Y1,Y2,Y3,Y4,Y5,Y6,Y7,Y8,Y9,Za,Zb,Zc,Zd,Ze,Zf,Zg,Zh,Zi,Zj,Zk,Zl,Zm,Zn,Zo,Zp,Zq,Zr,Zs,Zt,Zu,Zv,Zw,Zx,Zy,Zz,ZA,ZB,ZC,ZD,ZE,ZF,ZG,ZH,ZI,ZJ,ZK,ZL,ZM,ZN,ZO,ZP,ZQ,ZR,ZS,ZT,ZU,ZV,ZW,ZX,ZY,ZZ,Z0,Z1,Z2,Z3,Z4,Z5,Z6,Z7,Z8,Z9,Ja,Jb,Jc,Jd,Je,Jf,Jg,Jh,Ji,Jj,Jk,Jl,Jm,Jn,Jo,Jp,Jq,Jr,Js,Jt,Ju,Jv,Jw,Jx,Jy,Jz,JA,JB,JC,JD,JE,JF,JG,JH,JI,JJ,JK,JL,JM,JN,JO,JP,JQ,JR,JS,JT,JU,JV,JW,JX,JY,JZ,J0,J1,J2,J3,J4,J5,J6,J7,J8,J9,Ka,Kb,Kc,Kd,Ke,Kf,Kg,Kh,Ki,Kj,Kk,Kl,Km,Kn,Ko,Kp,Kq,Kr,Ks,Kt,Ku,Kv,Kw,Kx,Ky,Kz,KA,KB,KC,KD,KE,KF,KG,KH,KI,KJ,KK,KL,KM,KN,KO,KP,KQ,KR,KS,KT,KU,KV,KW,KX,KY,KZ,K0,K1,K2,K3,K4,K5,K6,K7,K8,K9,Ga,Gb,Gc,Gd,Ge,Gf,Gg,Gh,Gi,Gj,Gk,Gl,Gm,Gn,Gp,Gq,Gr,Gs,Gt,Gu,Gv,Gw,Gx,Gy,Gz,GA,GB,GC,GD,GE,GF,GG,GH,GI,GJ,GK,GL,GM,GN,GO,GP,GQ,GR,GS,GT,Nat.le_refl,Nat.reduceLeDiff,List.drop_zero,us_take,us_drop,is_take,is_drop,List.take_zero,gn,if_true,if_false,Nat.reduceEqDiff,Int.reduceEq,reduceCtorEq,Nat.succ_ne_self,Nat.reduceAdd,Nat.zero_add,Nat.add_zero,Nat.reduceMul,Nat.mul_one,Nat.one_mul,Nat.zero_mul,Nat.sub_zero,decide_true,decide_false,Bool.and_self,Bool.and_true,Bool.true_and,Bool.false_and,Bool.and_false,Bool.not_true,Bool.not_false,List.length_cons,List.length_nil,us_len,is_len,tb_len,dl_len,us_set,is_set,tb_set,Nat.not_lt_zero,List.nil_append,us_rep,is_rep, l1, l2, l3, l5.eq, l6.eq, l7, l8, l9, l10, l11, l12, l13]
  · have l1 : decide ((n : Int) < (n : Int)) = false := by simp
    simp only [uH]
    simp only [Qa,Qb,Qc,Qd,Qe,Qf,Qg,Qh,Qi,Qj,Qk,Ql,Qm,Qn,Qo,Qp,Qq,Qr,Qs,Qt,Qu,Qv,Qw,Qx,Qy,Qz,QA,QB,QC,QD,QE,QF,QG,QH,QI,QJ,QK,QL,QM,QN,QO,QP,QQ,QR,QS,QT,QU,QV,QW,QX,QY,QZ,Q0,Q1,Q2,Q3,Q4,Q5,Q6,Q7,Q8,Q9,Xa,Xb,Xc,Xd,Xe,Xf,Xg,Xh,Xi,Xj,Xk,Xl,Xm,Xn,Xo,Xp,Xq,Xr,Xs,Xt,Xu,Xv,Xw,Xx,Xy,Xz,XA,XB,XC,XD,XE,XF,XG,XH,XI,XJ,XK,XL,XM,XN,XO,XP,XQ,XR,XS,XT,XU,XV,XW,XX,XY,XZ,X0,X1,X2,X3,X4,X5,X6,X7,X8,X9,Ya,Yb,Yc,Yd,Ye,Yf,Yg,Yh,Yi,Yj,Yk,Yl,Ym,Yn,Yo,Yp,Yq,Yr,Ys,Yt,Yu,Yv,Yw,Yx,Yy,Yz,YA,YB,YC,YD,YE,YF,YG,YH,YI,YJ,YK,YL,YM,YN,YO,YP,YQ,YR,YS,YT,YU,YV,YW,YX,YY,YZ,Y0,Y1,Y2,Y3,Y4,Y5,Y6,Y7,Y8,Y9,Za,Zb,Zc,Zd,Ze,Zf,Zg,Zh,Zi,Zj,Zk,Zl,Zm,Zn,Zo,Zp,Zq,Zr,Zs,Zt,Zu,Zv,Zw,Zx,Zy,Zz,ZA,ZB,ZC,ZD,ZE,ZF,ZG,ZH,ZI,ZJ,ZK,ZL,ZM,ZN,ZO,ZP,ZQ,ZR,ZS,ZT,ZU,ZV,ZW,ZX,ZY,ZZ,Z0,Z1,Z2,Z3,Z4,Z5,Z6,Z7,Z8,Z9,Ja,Jb,Jc,Jd,Je,Jf,Jg,Jh,Ji,Jj,Jk,Jl,Jm,Jn,Jo,Jp,Jq,Jr,Js,Jt,Ju,Jv,Jw,Jx,Jy,Jz,JA,JB,JC,JD,JE,JF,JG,JH,JI,JJ,JK,JL,JM,JN,JO,JP,JQ,JR,JS,JT,JU,JV,JW,JX,JY,JZ,J0,J1,J2,J3,J4,J5,J6,J7,J8,J9,Ka,Kb,Kc,Kd,Ke,Kf,Kg,Kh,Ki,Kj,Kk,Kl,Km,Kn,Ko,Kp,Kq,Kr,Ks,Kt,Ku,Kv,Kw,Kx,Ky,Kz,KA,KB,KC,KD,KE,KF,KG,KH,KI,KJ,KK,KL,KM,KN,KO,KP,KQ,KR,KS,KT,KU,KV,KW,KX,KY,KZ,K0,K1,K2,K3,K4,K5,K6,K7,K8,K9,Ga,Gb,Gc,Gd,Ge,Gf,Gg,Gh,Gi,Gj,Gk,Gl,Gm,Gn,Gp,Gq,Gr,Gs,Gt,Gu,Gv,Gw,Gx,Gy,Gz,GA,GB,GC,GD,GE,GF,GG,GH,GI,GJ,GK,GL,GM,GN,GO,GP,GQ,GR,GS,GT,Nat.le_refl,Nat.reduceLeDiff,List.drop_zero,us_take,us_drop,is_take,is_drop,List.take_zero,gn,if_true,if_false,Nat.reduceEqDiff,Int.reduceEq,reduceCtorEq,Nat.succ_ne_self,Nat.reduceAdd,Nat.zero_add,Nat.add_zero,Nat.reduceMul,Nat.mul_one,Nat.one_mul,Nat.zero_mul,Nat.sub_zero,decide_true,decide_false,Bool.and_self,Bool.and_true,Bool.true_and,Bool.false_and,Bool.and_false,Bool.not_true,Bool.not_false,List.length_cons,List.length_nil,us_len,is_len,tb_len,dl_len,us_set,is_set,tb_set,Nat.not_lt_zero,List.nil_append,us_rep,is_rep, l1]

end Mir
